import Derived.Deep.CutRange
import Derived.Test.YtekchdgpaemofaaGreatYyJf
import Derived.Test.YtekchdgpaemofaaGreatYyDu
import Derived.Test.YtekchdgpaemofaaGreatYyAy
import Derived.Test.YtekchdgpaemofaaGreatYyVt
namespace Go.Proofs.YtekchdgpaemofaaGreat
open Go.ChangeShapes Go.WideShapes Go.RowKit
set_option linter.unusedVariables false
set_option linter.unusedSimpArgs false
attribute [local irreducible] Calls
theorem l04Meet_any (w : World) (L M : List Int) (v u : Value) (h : Lst (shI .i64) w L v) (hM : Lst (shI .i64) w M u) (hl : L.length ≤ 100) (hm : M.length ≤ 100) :
    Calls Tryz.prog 207 #[v, u] w fun e w' => e = .returned (.bool (meetB L M)) ∧ Below w.heap.size w w' := by
  obtain ⟨A, cap, rfl, hc, hmx, hel⟩ := lstI h
  obtain ⟨A2, cap2, rfl, _, _, _⟩ := lstI hM
  have HEL := Lib.hid hel
  have HM := Lib.hid hM
  clear hel h hM
  go_enter Tryz.func207, Tryz.ntmps207
  go_wp2_with fail
  go_loopw [5] (fun i wr => ∃ (a : Nat), a ≤ L.length ∧ i = .int .i64 a ∧ Hid (∀ x ∈ L.take a, memB M x = false) ∧ Below w.heap.size w wr) (fun i _ => L.length - (intOf i).toNat)
  case atStart => exact ⟨0, Nat.zero_le _, rfl, Lib.hid (by simp), belA⟩
  case round =>
    obtain ⟨a, ha, rfl, ht, hB⟩ := hrel
    by_cases hlt : a < L.length
    · have hk8 : (a : Int) < (L.length : Int) := by omega
      obtain ⟨bl, off, rfl, hel⟩ := HEL.out (by omega)
      have c0 := bkeep hB (hel a hlt)
      have hd0 : L[a]? = some (gi L a) := by simp [gi, List.getElem?_eq_getElem hlt]
      obtain ⟨d, hd⟩ : ∃ d, gi L a = d := ⟨_, rfl⟩
      rw [hd] at c0 hd0
      have HD := Lib.hid hd0
      have HM2 := Lib.hid (HM.out.below hB)
      clear hel hd0 hd
      cases hp : memB M d
      · have HP := Lib.hid hp
        clear hp
        go_wp2_with (first | (go_at_call 242; refine Calls.mono (l00Has_any _ M _ d (HM2.out.below belA) hm) ?_; rw [HP.out]; rintro e w1 ⟨rfl, hb⟩; obtain ⟨X, m, rfl⟩ := plsOf hb; clear hb))
        go_roundw
        case rel => exact ⟨a + 1, by omega, by go_num, Lib.hid (mem_take_succ ht.out HD.out HP.out), belA⟩
        case measure => simp [intOf]; omega
      · have HP := Lib.hid hp
        have hr : Hid (meetB L M = true) := Lib.hid (by unfold meetB; rw [List.any_eq_true]; exact ⟨d, List.mem_of_getElem? HD.out, hp⟩)
        clear hp
        go_wp2_with (first | (go_at_call 242; refine Calls.mono (l00Has_any _ M _ d (HM2.out.below belA) hm) ?_; rw [HP.out]; rintro e w1 ⟨rfl, hb⟩; obtain ⟨X, m, rfl⟩ := plsOf hb; clear hb))
        exact bodyPost_ret (v := .bool true) (by simp [results, Tryz.results207, go_sem]) rfl ⟨by rw [hr.out], belA⟩
    · have e : a = L.length := by omega
      have hr : Hid (meetB L M = false) := Lib.hid (by
        have := ht.out
        rw [e, List.take_length] at this
        unfold meetB
        rw [List.any_eq_false]
        intro x hx
        rw [this x hx]
        decide)
      go_wp2_with fail
      exact bodyPost_ret (v := .bool false) (by simp [results, Tryz.results207, go_sem]) rfl ⟨by rw [hr.out], belA⟩
theorem l04Ratio2_any (w : World) (p q : Int) (hp : 0 ≤ p ∧ p ≤ 100) (hq : 1 ≤ q ∧ q ≤ 100) : Calls Tryz.prog 208 #[.int .i64 p, .int .i64 q] w fun r w' => r = .returned (.agg #[.int .i64 (lowP p q), .int .i64 (lowQ p q)]) ∧ Below w.heap.size w w' := by
  have hs : smallB (lowP p q) (lowQ p q) = true := ((low_vl (p := p) hq.1).small hq.1 (by omega) (by omega)).1
  have h1 : Hid (resP (lowP p q) (lowQ p q) = lowP p q) := Lib.hid (by unfold resP; rw [hs]; rfl)
  have h2 : Hid (resQ (lowP p q) (lowQ p q) = lowQ p q) := Lib.hid (by unfold resQ; rw [hs]; rfl)
  have h3 : Hid (resC (lowP p q) (lowQ p q) = 0) := Lib.hid (by unfold resC; rw [hs]; rfl)
  have HL : Hid (∀ w, Calls Tryz.prog 204 #[.int .i64 p, .int .i64 q] w fun e w' => e = .returned (.tuple #[.agg #[.int .i64 (lowP p q), .int .i64 (lowQ p q)], .int .i64 0]) ∧ Below w.heap.size w w') := Lib.hid fun w => by
    have := slowest_any p q w (by omega) (by omega) (by omega) (by omega) (by omega)
    rw [h1.out, h2.out, h3.out] at this
    exact this
  obtain ⟨Xp, hX⟩ : ∃ Xp, lowP p q = Xp := ⟨_, rfl⟩
  obtain ⟨Y, hY⟩ : ∃ Y, lowQ p q = Y := ⟨_, rfl⟩
  rw [hX, hY] at HL ⊢
  clear hs h1 h2 h3 hX hY
  go_enter Tryz.func208, Tryz.ntmps208
  go_wp2_with (first | (go_at_call 204; refine Calls.mono (HL.out _) ?_; rintro e w1 ⟨rfl, hb⟩; obtain ⟨X, m, rfl⟩ := plsOf hb; clear hb))
  exact bodyPost_ret (v := .agg #[.int .i64 Xp, .int .i64 Y]) (by simp [results, Tryz.results208, go_sem]) rfl ⟨rfl, belA⟩
def spI (p : Bool) (P2 : List Int → Bool) (x : List Int) (Ms : List (List Int)) : Nat := (Ms.filter fun b => !meetB x b).countP fun b => p && P2 b
def spJ (x : List Int) (Ms : List (List Int)) : Nat := (Ms.filter fun b => !meetB x b).length
def spM (P1 P2 : List Int → Bool) (Ls Ms : List (List Int)) (a : Nat) : Nat := ((Ls.take a).map fun x => spI (P1 x) P2 x Ms).sum
def spA (Ls Ms : List (List Int)) (a : Nat) : Nat := ((Ls.take a).map fun x => spJ x Ms).sum
theorem spI_succ {p : Bool} {P2 : List Int → Bool} {x y : List Int} {Ms : List (List Int)} {c : Nat} (h : Ms[c]? = some y) : spI p P2 x (Ms.take (c + 1)) = spI p P2 x (Ms.take c) + (if !meetB x y && (p && P2 y) then 1 else 0) := by
  unfold spI
  rw [List.take_add_one, h, List.filter_append, List.countP_append]
  congr 1
  cases h1 : meetB x y <;> simp [h1, List.countP_cons]
theorem spJ_succ {x y : List Int} {Ms : List (List Int)} {c : Nat} (h : Ms[c]? = some y) : spJ x (Ms.take (c + 1)) = spJ x (Ms.take c) + (if meetB x y then 0 else 1) := by
  unfold spJ
  rw [List.take_add_one, h, List.filter_append, List.length_append]
  congr 1
  cases h1 : meetB x y <;> simp [h1]
theorem spM_succ {P1 P2 : List Int → Bool} {Ls Ms : List (List Int)} {a : Nat} {x : List Int} (h : Ls[a]? = some x) : spM P1 P2 Ls Ms (a + 1) = spM P1 P2 Ls Ms a + spI (P1 x) P2 x Ms := by
  unfold spM
  rw [List.take_add_one, h, List.map_append, List.sum_append]
  simp
theorem spA_succ {Ls Ms : List (List Int)} {a : Nat} {x : List Int} (h : Ls[a]? = some x) : spA Ls Ms (a + 1) = spA Ls Ms a + spJ x Ms := by
  unfold spA
  rw [List.take_add_one, h, List.map_append, List.sum_append]
  simp
theorem sp_end {n k q1 q2 : Nat} (hn : n ≤ 5) (hk : k ≤ 3) (h : k + q1 + q2 ≤ n) (P1 P2 : List Int → Bool) : spM P1 P2 (s4L q1 k n) (s4L q2 k n) (s4L q1 k n).length = jnM P1 P2 k n q1 q2 ∧ spA (s4L q1 k n) (s4L q2 k n) (s4L q1 k n).length = jnA k n q1 q2 := by
  obtain ⟨h1, h2⟩ := jn_same hn hk h P1 P2
  rw [← h1, ← h2]
  unfold spM spA prS spI spJ
  rw [List.take_length, List.countP_flatMap, List.length_flatMap]
  constructor
  · congr 1
    apply List.map_congr_left
    intro x _
    show _ = ((((s4L q2 k n).filter fun b => !meetB x b).map fun b => (x, b)).countP fun p => P1 p.1 && P2 p.2)
    rw [List.countP_map]
    rfl
  · congr 1
    apply List.map_congr_left
    intro x _
    rw [List.length_map]
theorem s4_len {k n q : Nat} (hk : k ≤ 3) (hn : n ≤ 5) (hkq : k + q ≤ n) : (s4L q k n).length ≤ 10 := by
  have h := sets_len k hk n hn (by omega) q (by omega)
  have h2 := (dnC_bd (k := k) (n := n) (m := k + q) (by omega) hkq hn).2
  unfold dnC at h2
  rw [show k + q - k = q by omega] at h2
  omega
set_option maxHeartbeats 4000000 in
theorem l04Joint_any (w : World) (k n q1 q2 : Nat) (e : Int) (f h : Flg) (hk : k ≤ 3) (hn : n ≤ 5) (hkq : k + q1 + q2 ≤ n) (hf : flV f = true) (hfo : okFlag f) (hfk : f.1 = k) (hfq : f.2.1 = ((k + q1 : Nat) : Int)) (hh : flV h = true) (hho : okFlag h) (hhk : h.1 = k) (hhq : h.2.1 = ((k + q2 : Nat) : Int)) :
    Calls Tryz.prog 129 #[.agg #[.int .i64 f.1, .int .i64 f.2.1, .int .u32 f.2.2], .agg #[.int .i64 h.1, .int .i64 h.2.1, .int .u32 h.2.2], .agg #[.int .i64 k, .int .i64 n, .int .u32 e]] w fun r w' => r = .returned (.agg #[.int .i64 (jns (ptB k e f) (ptB k e h) k n q1 q2).1, .int .i64 (jns (ptB k e f) (ptB k e h) k n q1 q2).2]) ∧ Below w.heap.size w w' := by
  have hbd := jn_bd hn hk hkq (ptB k e f) (ptB k e h)
  have hend := sp_end hn hk hkq (ptB k e f) (ptB k e h)
  obtain ⟨P1, hP1⟩ : ∃ P1, Hid (ptB k e f = P1) := ⟨_, Lib.hid rfl⟩
  obtain ⟨P2, hP2⟩ : ∃ P2, Hid (ptB k e h = P2) := ⟨_, Lib.hid rfl⟩
  obtain ⟨LS1, hLS1⟩ : ∃ LS1, Hid (s4L q1 k n = LS1) := ⟨_, Lib.hid rfl⟩
  obtain ⟨LS2, hLS2⟩ : ∃ LS2, Hid (s4L q2 k n = LS2) := ⟨_, Lib.hid rfl⟩
  rw [hP1.out, hP2.out] at hbd hend ⊢
  rw [hLS1.out, hLS2.out] at hend
  have l1 := s4_len hk hn (show k + q1 ≤ n by omega)
  have l2 := s4_len hk hn (show k + q2 ≤ n by omega)
  rw [hLS1.out] at l1
  rw [hLS2.out] at l2
  obtain ⟨N1, hN1⟩ : ∃ N1, Hid (LS1.length = N1) := ⟨_, Lib.hid rfl⟩
  obtain ⟨N2, hN2⟩ : ∃ N2, Hid (LS2.length = N2) := ⟨_, Lib.hid rfl⟩
  rw [hN1.out] at l1 hend
  rw [hN2.out] at l2
  have HEND := Lib.hid hend
  obtain ⟨b1, b2, b3⟩ := hbd
  have ok1 : Hid (∀ L ∈ LS1, VL (seqI k ++ L) ∧ L.length = q1) := Lib.hid fun L hL => s4_ok hk hn (by omega) L (by rw [hLS1.out]; exact hL)
  have ok2 : Hid (∀ L ∈ LS2, VL (seqI k ++ L) ∧ L.length = q2) := Lib.hid fun L hL => s4_ok hk hn (by omega) L (by rw [hLS2.out]; exact hL)
  have hfl := (flV_iff _).1 hf
  have hhl := (flV_iff _).1 hh
  obtain ⟨m1, hm1⟩ : ∃ m1 : Nat, k + q1 = m1 := ⟨_, rfl⟩
  obtain ⟨m2, hm2⟩ : ∃ m2 : Nat, k + q2 = m2 := ⟨_, rfl⟩
  rw [hm1] at hfq
  rw [hm2] at hhq
  obtain ⟨LF, hLF⟩ : ∃ LF, Hid (leastF f = LF) := ⟨_, Lib.hid rfl⟩
  obtain ⟨LH, hLH⟩ : ∃ LH, Hid (leastF h = LH) := ⟨_, Lib.hid rfl⟩
  have HLF : Hid (∀ w, Calls Tryz.prog 123 #[.agg #[.int .i64 f.1, .int .i64 f.2.1, .int .u32 f.2.2]] w fun e0 w' => e0 = .returned (.agg #[.int .i64 k, .int .i64 m1, .int .u32 LF]) ∧ Below w.heap.size w w') := Lib.hid fun w => by
    have := sleast_i w f hfo hf
    rw [hLF.out] at this
    rw [hfk, hfq] at this ⊢
    exact this
  have HLH : Hid (∀ w, Calls Tryz.prog 123 #[.agg #[.int .i64 h.1, .int .i64 h.2.1, .int .u32 h.2.2]] w fun e0 w' => e0 = .returned (.agg #[.int .i64 k, .int .i64 m2, .int .u32 LH]) ∧ Below w.heap.size w w') := Lib.hid fun w => by
    have := sleast_i w h hho hh
    rw [hLH.out] at this
    rw [hhk, hhq] at this ⊢
    exact this
  have hfreef : Hid (f.2.1 - f.1 = (q1 : Int)) := Lib.hid (by rw [hfq, hfk]; omega)
  have hfreeh : Hid (h.2.1 - h.1 = (q2 : Int)) := Lib.hid (by rw [hhq, hhk]; omega)
  have hbf : 0 ≤ f.1 ∧ f.1 ≤ 5 := by omega
  have hbf2 : 0 ≤ f.2.1 ∧ f.2.1 ≤ 5 := by omega
  have hbh : 0 ≤ h.1 ∧ h.1 ≤ 5 := by omega
  have hbh2 : 0 ≤ h.2.1 ∧ h.2.1 ≤ 5 := by omega
  have HS1 : Hid (∀ w, Calls Tryz.prog 205 #[.int .i64 (q1 : Int), .agg #[.int .i64 k, .int .i64 n, .int .u32 e]] w (LsRet w LS1)) := Lib.hid fun w => by
    have := l04Sets_any w q1 k n e (by omega) hk (by omega) hn
    rw [hLS1.out] at this
    exact this
  have HS2 : Hid (∀ w, Calls Tryz.prog 205 #[.int .i64 (q2 : Int), .agg #[.int .i64 k, .int .i64 n, .int .u32 e]] w (LsRet w LS2)) := Lib.hid fun w => by
    have := l04Sets_any w q2 k n e (by omega) hk (by omega) hn
    rw [hLS2.out] at this
    exact this
  have HPT1 : Hid (∀ L, P1 L = (leastI m1 k (onE e (seqI k ++ L)) == LF)) := Lib.hid fun L => by
    rw [← hP1.out, ← hLF.out]
    unfold ptB
    rw [show f.2.1.toNat = m1 by rw [hfq]; rfl]
  have HPT2 : Hid (∀ L, P2 L = (leastI m2 k (onE e (seqI k ++ L)) == LH)) := Lib.hid fun L => by
    rw [← hP2.out, ← hLH.out]
    unfold ptB
    rw [show h.2.1.toNat = m2 by rw [hhq]; rfl]
  have hk5 : k ≤ 5 := by omega
  have hq15 : q1 ≤ 5 := by omega
  have hq25 : q2 ≤ 5 := by omega
  have HKP3 : Hid (∀ V w' : World, Below V.heap.size V w' → (fun w' => w'.cell? ⟨w.heap.size, 0, none⟩ = some (.int .i64 f.1) ∧ w'.cell? ⟨w.heap.size, 1, none⟩ = some (.int .i64 f.2.1) ∧ w'.cell? ⟨w.heap.size, 2, none⟩ = some (.int .u32 f.2.2) ∧ w'.cell? ⟨w.heap.size + 1 + 1, 0, none⟩ = some (.int .i64 k) ∧ w'.cell? ⟨w.heap.size + 1 + 1, 1, none⟩ = some (.int .i64 n) ∧ w'.cell? ⟨w.heap.size + 1 + 1, 2, none⟩ = some (.int .u32 e)) V → (fun w' => w'.cell? ⟨w.heap.size, 0, none⟩ = some (.int .i64 f.1) ∧ w'.cell? ⟨w.heap.size, 1, none⟩ = some (.int .i64 f.2.1) ∧ w'.cell? ⟨w.heap.size, 2, none⟩ = some (.int .u32 f.2.2) ∧ w'.cell? ⟨w.heap.size + 1 + 1, 0, none⟩ = some (.int .i64 k) ∧ w'.cell? ⟨w.heap.size + 1 + 1, 1, none⟩ = some (.int .i64 n) ∧ w'.cell? ⟨w.heap.size + 1 + 1, 2, none⟩ = some (.int .u32 e)) w') := Lib.hid fun V w' hb h => ⟨bkeep hb h.1, bkeep hb h.2.1, bkeep hb h.2.2.1, bkeep hb h.2.2.2.1, bkeep hb h.2.2.2.2.1, bkeep hb h.2.2.2.2.2⟩
  have HKP4 : Hid (∀ V w' : World, Below V.heap.size V w' → (fun w' => w'.cell? ⟨w.heap.size + 1, 0, none⟩ = some (.int .i64 h.1) ∧ w'.cell? ⟨w.heap.size + 1, 1, none⟩ = some (.int .i64 h.2.1) ∧ w'.cell? ⟨w.heap.size + 1, 2, none⟩ = some (.int .u32 h.2.2) ∧ w'.cell? ⟨w.heap.size + 1 + 1, 0, none⟩ = some (.int .i64 k) ∧ w'.cell? ⟨w.heap.size + 1 + 1, 1, none⟩ = some (.int .i64 n) ∧ w'.cell? ⟨w.heap.size + 1 + 1, 2, none⟩ = some (.int .u32 e)) V → (fun w' => w'.cell? ⟨w.heap.size + 1, 0, none⟩ = some (.int .i64 h.1) ∧ w'.cell? ⟨w.heap.size + 1, 1, none⟩ = some (.int .i64 h.2.1) ∧ w'.cell? ⟨w.heap.size + 1, 2, none⟩ = some (.int .u32 h.2.2) ∧ w'.cell? ⟨w.heap.size + 1 + 1, 0, none⟩ = some (.int .i64 k) ∧ w'.cell? ⟨w.heap.size + 1 + 1, 1, none⟩ = some (.int .i64 n) ∧ w'.cell? ⟨w.heap.size + 1 + 1, 2, none⟩ = some (.int .u32 e)) w') := Lib.hid fun V w' hb h => ⟨bkeep hb h.1, bkeep hb h.2.1, bkeep hb h.2.2.1, bkeep hb h.2.2.2.1, bkeep hb h.2.2.2.2.1, bkeep hb h.2.2.2.2.2⟩
  clear hf hfo hfk hfq hh hho hhk hhq hfl hhl hend
  go_enter Tryz.func129, Tryz.ntmps129
  go_wp2_with fail
  refine Calls.mono (HLF.out _) ?_
  rintro e0 w1 ⟨rfl, hb⟩
  have HB1 := Lib.hid (show Below w.heap.size w w1 from Below.trans belA (hb.mono (by simp <;> omega)))
  have A0 := Lib.hid (show w1.heap[w.heap.size]? = some (.cells #[.int .i64 f.1, .int .i64 f.2.1, .int .u32 f.2.2] 104 (0, 0)) from bblk hb (by simp <;> omega) blkA)
  have A1 := Lib.hid (show w1.heap[w.heap.size + 1]? = some (.cells #[.int .i64 h.1, .int .i64 h.2.1, .int .u32 h.2.2] 104 (0, 0)) from bblk hb (by simp <;> omega) blkA)
  have A2 := Lib.hid (show w1.heap[w.heap.size + 1 + 1]? = some (.cells #[.int .i64 k, .int .i64 n, .int .u32 e] 104 (0, 0)) from bblk hb (by simp <;> omega) blkA)
  have A3 := Lib.hid (show w1.heap[w.heap.size + 1 + 1 + 1]? = some (.cells #[.int .i64 0, .int .i64 0] 54 (0, 0)) from bblk hb (by simp <;> omega) blkA)
  obtain ⟨u0, u1, u2⟩ := blkc3 A1.out
  have yh1 := blklt A1.out
  have hz1 := HB1.out.size
  clear hb
  go_wp2_with fail
  refine Calls.mono (HLH.out _) ?_
  rintro e0 w2 ⟨rfl, hb⟩
  have hb1 := HB1.out
  have HB2 := Lib.hid (show Below w.heap.size w w2 from Below.trans belA (hb.mono (by simp <;> omega)))
  have K7 : Hid (w2.heap[w1.heap.size]? = some (.cells #[.int .i64 k, .int .i64 m1, .int .u32 LF] 104 (0, 0))) := Lib.hid (bblk hb (by simp) blkA)
  have B0 := Lib.hid (show w2.heap[w.heap.size]? = some (.cells #[.int .i64 f.1, .int .i64 f.2.1, .int .u32 f.2.2] 104 (0, 0)) from bblk hb (by have := blklt A0.out; simp <;> omega) (by have a0 := A0.out; exact blkA))
  have B1 := Lib.hid (show w2.heap[w.heap.size + 1]? = some (.cells #[.int .i64 h.1, .int .i64 h.2.1, .int .u32 h.2.2] 104 (0, 0)) from bblk hb (by have := blklt A1.out; simp <;> omega) (by have a1 := A1.out; exact blkA))
  have B2 := Lib.hid (show w2.heap[w.heap.size + 1 + 1]? = some (.cells #[.int .i64 k, .int .i64 n, .int .u32 e] 104 (0, 0)) from bblk hb (by have := blklt A2.out; simp <;> omega) (by have a2 := A2.out; exact blkA))
  have B3 := Lib.hid (show w2.heap[w.heap.size + 1 + 1 + 1]? = some (.cells #[.int .i64 0, .int .i64 0] 54 (0, 0)) from bblk hb (by have := blklt A3.out; simp <;> omega) (by have a3 := A3.out; exact blkA))
  have hz2 := HB2.out.size
  clear hb hb1
  obtain ⟨b7, hb7⟩ : ∃ b7, w1.heap.size = b7 := ⟨_, rfl⟩
  rw [hb7] at K7 hz1
  go_wp2_with fail
  generalize hW2 : w2.alloc (.cells #[.int .i64 k, .int .i64 m2, .int .u32 LH] 104) = W2
  have k8 : W2.heap[w2.heap.size]? = some (.cells #[.int .i64 k, .int .i64 m2, .int .u32 LH] 104 (0, 0)) := by rw [← hW2]; exact blknew _ _
  have hbx : Below w2.heap.size w2 W2 := by rw [← hW2]; exact bal (Below.refl _ _) _
  have C0 := Lib.hid (bblk hbx (blklt B0.out) B0.out)
  have C1 := Lib.hid (bblk hbx (blklt B1.out) B1.out)
  have C2 := Lib.hid (bblk hbx (blklt B2.out) B2.out)
  have C3 := Lib.hid (bblk hbx (blklt B3.out) B3.out)
  have C7 := Lib.hid (bblk hbx (blklt K7.out) K7.out)
  have HBW := Lib.hid (HB2.out.trans (hbx.mono HB2.out.size))
  have hzW := HBW.out.size
  generalize w2.heap.size = b8 at k8 ⊢
  have C8 := Lib.hid k8
  obtain ⟨f0, f1, f2⟩ := blkc3 C0.out
  obtain ⟨h0, h1, h2⟩ := blkc3 C1.out
  obtain ⟨g0, g1, g2⟩ := blkc3 C2.out
  have y0 := blklt C0.out
  have y1 := blklt C1.out
  have y2 := blklt C2.out
  have y3 := blklt C3.out
  have y7 := blklt C7.out
  have y8 := blklt C8.out
  clear k8 hbx hW2 hb7 hz1 hz2 B0 B1 B2 B3 K7 A0 A1 A2 A3 HB1 HB2 u0 u1 u2 yh1
  (refine wp_region_held_drew (S := (fun w' => w'.cell? ⟨w.heap.size, 0, none⟩ = some (.int .i64 f.1) ∧ w'.cell? ⟨w.heap.size, 1, none⟩ = some (.int .i64 f.2.1) ∧ w'.cell? ⟨w.heap.size, 2, none⟩ = some (.int .u32 f.2.2) ∧ w'.cell? ⟨w.heap.size + 1 + 1, 0, none⟩ = some (.int .i64 k) ∧ w'.cell? ⟨w.heap.size + 1 + 1, 1, none⟩ = some (.int .i64 n) ∧ w'.cell? ⟨w.heap.size + 1 + 1, 2, none⟩ = some (.int .u32 e))) (by kernel_rfl) ?_ (fun hHeld => ?_); (focus (first | exact hS | (simp [*, go_sem]; done) | fail)); refine rt 0 (some 20) (v := ?_) rfl rfl ?_ ?_; rotate_left; (focus (intro w' hSw; (try dsimp only at hSw); go_simp; (try with_reducible rfl))); (try simp only [Act.put, nA, nB, nC]); refine rt 2 (some 22) (v := ?_) rfl rfl ?_ ?_; rotate_left; (focus (intro w' hSw; (try dsimp only at hSw); go_simp; (try with_reducible rfl))); (try simp only [Act.put, nA, nB, nC]); refine wpAnyH_ready (rs := [1]) (by kernel_rfl) (by simp) ?_; refine AllReadyH.cons rfl (fun K hK => ?_) AllReadyH.nil; go_simp; (go_at_call 78; refine Calls.mono (l04Free_any _ f hbf hbf2) ?_; rw [hfreef.out]; rintro e0 w3 ⟨rfl, hb⟩; have hS := HKP3.out _ _ hb hHeld; have HB3 := Lib.hid (show Below W2.heap.size W2 w3 from Below.trans belA (hb.mono (by first | exact Nat.le_refl _ | (simp; done)))); clear hb); go_wp2_with fail; refine hK.out _ _ ?_ (fun hHeld => ?_); (focus (first | exact hS | (simp [*, go_sem]; done) | fail)); clear hK K; (try simp only [Act.put, nA, nB, nC]); refine wpAnyH_ready (rs := [3]) (by kernel_rfl) (by simp) ?_; refine AllReadyH.cons rfl (fun K hK => ?_) AllReadyH.nil; go_simp; (go_at_call 205; refine Calls.mono (HS1.out _) ?_; rintro e0 w4 ⟨A1, cap1, F1, rfl, hO, hb⟩; rw [hN1.out] at hO ⊢; have hS := HKP3.out _ _ hb hHeld; have hb3 := HB3.out; have HB4 := Lib.hid (show Below W2.heap.size W2 w4 from Below.trans belA (hb.mono (by have := hb3.size; simp <;> omega))); have HO1 := Lib.hid (show Own (shL (shI .i64)) 0 w4 LS1 (.slice A1 N1 cap1) F1 from hO.below (Nat.zero_le _) (Below.refl _ _)); have hz4 := HB4.out.size; clear hb hb3 hO); go_wp2_with fail; refine hK.out _ _ ?_ (fun hHeld => ?_); (focus (first | exact hS | (simp [*, go_sem]; done) | fail)); clear hK K; (try simp only [Act.put, nA, nB, nC]); refine rt 4 (some 9) (v := ?_) rfl rfl ?_ ?_; rotate_left; (focus (intro w' hSw; (try dsimp only at hSw); go_simp; (try with_reducible rfl))); (try simp only [Act.put, nA, nB, nC]); refine wpAnyH_done (by kernel_rfl) ?_ _)
  clear hHeld
  have kh := bblk HB4.out y1 C1.out
  have kg := bblk HB4.out y2 C2.out
  obtain ⟨h40, h41, h42⟩ := blkc3 kh
  obtain ⟨g40, g41, g42⟩ := blkc3 kg
  have yh4 := blklt kh
  have yg4 := blklt kg
  clear kh kg f0 f1 f2 h0 h1 h2 g0 g1 g2
  go_wp2_with fail
  (refine wp_region_held_drew (S := (fun w' => w'.cell? ⟨w.heap.size + 1, 0, none⟩ = some (.int .i64 h.1) ∧ w'.cell? ⟨w.heap.size + 1, 1, none⟩ = some (.int .i64 h.2.1) ∧ w'.cell? ⟨w.heap.size + 1, 2, none⟩ = some (.int .u32 h.2.2) ∧ w'.cell? ⟨w.heap.size + 1 + 1, 0, none⟩ = some (.int .i64 k) ∧ w'.cell? ⟨w.heap.size + 1 + 1, 1, none⟩ = some (.int .i64 n) ∧ w'.cell? ⟨w.heap.size + 1 + 1, 2, none⟩ = some (.int .u32 e))) (by kernel_rfl) ?_ (fun hHeld => ?_); (focus (first | exact hS | (simp [*, go_sem]; done) | fail)); refine rt 0 (some 24) (v := ?_) rfl rfl ?_ ?_; rotate_left; (focus (intro w' hSw; (try dsimp only at hSw); go_simp; (try with_reducible rfl))); (try simp only [Act.put, nA, nB, nC]); refine rt 2 (some 26) (v := ?_) rfl rfl ?_ ?_; rotate_left; (focus (intro w' hSw; (try dsimp only at hSw); go_simp; (try with_reducible rfl))); (try simp only [Act.put, nA, nB, nC]); refine wpAnyH_ready (rs := [1]) (by kernel_rfl) (by simp) ?_; refine AllReadyH.cons rfl (fun K hK => ?_) AllReadyH.nil; go_simp; (go_at_call 78; refine Calls.mono (l04Free_any _ h hbh hbh2) ?_; rw [hfreeh.out]; rintro e0 w5 ⟨rfl, hb⟩; have hS := HKP4.out _ _ hb hHeld; have HB5 := Lib.hid (show Below w4.heap.size w4 w5 from Below.trans belA (hb.mono (by first | exact Nat.le_refl _ | (simp; done)))); clear hb); go_wp2_with fail; refine hK.out _ _ ?_ (fun hHeld => ?_); (focus (first | exact hS | (simp [*, go_sem]; done) | fail)); clear hK K; (try simp only [Act.put, nA, nB, nC]); refine wpAnyH_ready (rs := [3]) (by kernel_rfl) (by simp) ?_; refine AllReadyH.cons rfl (fun K hK => ?_) AllReadyH.nil; go_simp; (go_at_call 205; refine Calls.mono (HS2.out _) ?_; rintro e0 w6 ⟨A2, cap2, F2, rfl, hO, hb⟩; rw [hN2.out] at hO ⊢; have hS := HKP4.out _ _ hb hHeld; have hb5 := HB5.out; have HB46 := Lib.hid (show Below w4.heap.size w4 w6 from Below.trans belA (hb.mono (by have := hb5.size; simp <;> omega))); have HB6 := Lib.hid (HB4.out.trans (HB46.out.mono hz4)); have HO16 := Lib.hid (HO1.out.below (Nat.le_refl _) HB46.out); have HO26 := Lib.hid (show Own (shL (shI .i64)) 0 w6 LS2 (.slice A2 N2 cap2) F2 from hO.below (Nat.zero_le _) (Below.refl _ _)); have hz6 := HB6.out.size; clear hb hb5 hO); go_wp2_with fail; refine hK.out _ _ ?_ (fun hHeld => ?_); (focus (first | exact hS | (simp [*, go_sem]; done) | fail)); clear hK K; (try simp only [Act.put, nA, nB, nC]); refine rt 4 (some 10) (v := ?_) rfl rfl ?_ ?_; rotate_left; (focus (intro w' hSw; (try dsimp only at hSw); go_simp; (try with_reducible rfl))); (try simp only [Act.put, nA, nB, nC]); refine wpAnyH_done (by kernel_rfl) ?_ _)
  clear hHeld h40 h41 h42 g40 g41 g42
  go_wp2_with fail
  go_loopw [11, 12, 13] (fun nn al i wr => ∃ (a C D : Nat), a ≤ N1 ∧ i = .int .i64 a ∧ nn = .int .i64 C ∧ al = .int .i64 D ∧ Hid (spM P1 P2 LS1 LS2 a = C) ∧ Hid (spA LS1 LS2 a = D) ∧ C ≤ a * 10 ∧ D ≤ a * 10 ∧ Hid (Own (shL (shI .i64)) 0 wr LS1 (.slice A1 N1 cap1) F1) ∧ Hid (Own (shL (shI .i64)) 0 wr LS2 (.slice A2 N2 cap2) F2) ∧ Below W2.heap.size W2 wr) (fun _ _ i _ => N1 - (intOf i).toNat)
  case atStart =>
    have hb6 := HB6.out
    exact ⟨0, 0, 0, Nat.zero_le _, rfl, rfl, rfl, Lib.hid rfl, Lib.hid rfl, Nat.le_refl _, Nat.le_refl _, Lib.hid (HO16.out.below (Nat.le_refl _) belA), Lib.hid (HO26.out.below (Nat.le_refl _) belA), belA⟩
  case round =>
    obtain ⟨a, C, D, ha, rfl, rfl, rfl, hC, hD, hC10, hD10, hO1, hO2, hB⟩ := hrel
    obtain ⟨W0, rfl⟩ : ∃ x, x = wr := ⟨_, rfl⟩
    have kg := bblk hB y2 C2.out
    obtain ⟨g50, g51, g52⟩ := blkc3 kg
    have yg5 := blklt kg
    have k7 := bblk hB y7 C7.out
    obtain ⟨l50, l51, l52⟩ := blkc3 k7
    have yl5 := blklt k7
    clear kg k7
    by_cases hlt : a < N1
    · have hk8 : (a : Int) < (N1 : Int) := by omega
      obtain ⟨L, hL⟩ : ∃ L, LS1[a]? = some L := ⟨_, List.getElem?_eq_getElem (by rw [hN1.out]; exact hlt)⟩
      obtain ⟨hV, hLl⟩ := ok1.out L (List.mem_of_getElem? hL)
      obtain ⟨g1, cap4, Fi, vi, hv, c0, _, hOi, _, _, _, _⟩ := own_rowI hO1.out hL
      obtain ⟨rfl, hNl, rfl⟩ : A1 = some ⟨g1, 0, none⟩ ∧ N1 = LS1.length ∧ cap1 = cap4 := by simpa using hv
      have zg := World.block_lt_of_cell? _ _ c0
      simp only at zg
      obtain ⟨A4, cap5, rfl, _, _, _⟩ := lstI hOi.lst
      have HLi := Lib.hid hOi.lst
      have HV := Lib.hid hV
      have hLm : k + L.length = m1 := by omega
      obtain ⟨LV, hLV⟩ : ∃ LV, Hid (leastI m1 k (onE e (seqI k ++ L)) = LV) := ⟨_, Lib.hid rfl⟩
      obtain ⟨pp, hpp⟩ : ∃ pp, eq3 (k : Int) m1 LV k m1 LF = pp := ⟨_, rfl⟩
      have HPL : Hid (P1 L = pp) := Lib.hid (by rw [HPT1.out, hLV.out, ← hpp, eq3_k])
      have HLL := Lib.hid hL
      have hLl10 : L.length ≤ 100 := by omega
      have HKP10 : Hid (∀ V w' : World, Below V.heap.size V w' → (fun w' => w'.cell? ⟨w.heap.size + 1 + 1, 0, none⟩ = some (.int .i64 k) ∧ w'.cell? ⟨w.heap.size + 1 + 1, 1, none⟩ = some (.int .i64 n) ∧ w'.cell? ⟨w.heap.size + 1 + 1, 2, none⟩ = some (.int .u32 e) ∧ w'.cell? ⟨b7, 0, none⟩ = some (.int .i64 k) ∧ w'.cell? ⟨b7, 1, none⟩ = some (.int .i64 m1) ∧ w'.cell? ⟨b7, 2, none⟩ = some (.int .u32 LF) ∧ w'.cell? ⟨g1, a, none⟩ = some (.slice A4 L.length cap5)) V → (fun w' => w'.cell? ⟨w.heap.size + 1 + 1, 0, none⟩ = some (.int .i64 k) ∧ w'.cell? ⟨w.heap.size + 1 + 1, 1, none⟩ = some (.int .i64 n) ∧ w'.cell? ⟨w.heap.size + 1 + 1, 2, none⟩ = some (.int .u32 e) ∧ w'.cell? ⟨b7, 0, none⟩ = some (.int .i64 k) ∧ w'.cell? ⟨b7, 1, none⟩ = some (.int .i64 m1) ∧ w'.cell? ⟨b7, 2, none⟩ = some (.int .u32 LF) ∧ w'.cell? ⟨g1, a, none⟩ = some (.slice A4 L.length cap5)) w') := Lib.hid fun V w' hb h => ⟨bkeep hb h.1, bkeep hb h.2.1, bkeep hb h.2.2.1, bkeep hb h.2.2.2.1, bkeep hb h.2.2.2.2.1, bkeep hb h.2.2.2.2.2.1, bkeep hb h.2.2.2.2.2.2⟩
      clear hV hL hNl hv hOi hLl
      go_wp2_with fail
      (refine wp_region_held_drew (S := (fun w' => w'.cell? ⟨w.heap.size + 1 + 1, 0, none⟩ = some (.int .i64 k) ∧ w'.cell? ⟨w.heap.size + 1 + 1, 1, none⟩ = some (.int .i64 n) ∧ w'.cell? ⟨w.heap.size + 1 + 1, 2, none⟩ = some (.int .u32 e) ∧ w'.cell? ⟨b7, 0, none⟩ = some (.int .i64 k) ∧ w'.cell? ⟨b7, 1, none⟩ = some (.int .i64 m1) ∧ w'.cell? ⟨b7, 2, none⟩ = some (.int .u32 LF) ∧ w'.cell? ⟨g1, a, none⟩ = some (.slice A4 L.length cap5))) (by kernel_rfl) ?_ (fun hHeld => ?_); (focus (first | exact hS | (simp [*, go_sem]; done) | fail)); refine rt 0 (some 34) (v := ?_) rfl rfl ?_ ?_; rotate_left; (focus (intro w' hSw; (try dsimp only at hSw); go_simp; (try with_reducible rfl))); (try simp only [Act.put, nA, nB, nC]); refine rt 1 (some 35) (v := ?_) rfl rfl ?_ ?_; rotate_left; (focus (intro w' hSw; (try dsimp only at hSw); go_simp; (try with_reducible rfl))); (try simp only [Act.put, nA, nB, nC]); refine rt 2 (some 36) (v := ?_) rfl rfl ?_ ?_; rotate_left; (focus (intro w' hSw; (try dsimp only at hSw); go_simp; (try with_reducible rfl))); (try simp only [Act.put, nA, nB, nC]); refine rt 3 (some 37) (v := ?_) rfl rfl ?_ ?_; rotate_left; (focus (intro w' hSw; (try dsimp only at hSw); go_simp; (try with_reducible rfl))); (try simp only [Act.put, nA, nB, nC]); refine rt 4 (some 38) (v := ?_) rfl rfl ?_ ?_; rotate_left; (focus (intro w' hSw; (try dsimp only at hSw); go_simp; (try with_reducible rfl))); (try simp only [Act.put, nA, nB, nC]); refine rt 6 (some 40) (v := ?_) rfl rfl ?_ ?_; rotate_left; (focus (intro w' hSw; (try dsimp only at hSw); go_simp; (try with_reducible rfl))); (try simp only [Act.put, nA, nB, nC]); refine wpAnyH_ready (rs := [5]) (by kernel_rfl) (by simp) ?_; refine AllReadyH.cons rfl (fun K hK => ?_) AllReadyH.nil; go_simp; (go_at_call 206; refine Calls.mono (l03Part_any _ k n m1 e L _ hk5 (HLi.out.below belA) HV.out hLm) ?_; rw [hLV.out]; rintro e0 w7 ⟨rfl, hb⟩; have hS := HKP10.out _ _ hb hHeld; have HB7 := Lib.hid (show Below W0.heap.size W0 w7 from Below.trans belA (hb.mono (by first | exact Nat.le_refl _ | (simp; done)))); have hz7 := HB7.out.size; clear hb); go_wp2_with fail; refine hK.out _ _ ?_ (fun hHeld => ?_); (focus (first | exact hS | (simp [*, go_sem]; done) | fail)); clear hK K; (try simp only [Act.put, nA, nB, nC]); refine rt 7 (some 41) (v := ?_) rfl rfl ?_ ?_; rotate_left; (focus (intro w' hSw; (try dsimp only at hSw); go_simp; (try with_reducible rfl))); (try simp only [Act.put, nA, nB, nC]); refine rt 8 (some 14) (v := ?_) rfl rfl ?_ ?_; rotate_left; (focus (intro w' hSw; (try dsimp only at hSw); go_simp; (try with_reducible rfl))); (try simp only [Act.put, nA, nB, nC]); refine wpAnyH_done (by kernel_rfl) ?_ _)
      clear hHeld hpp
      go_wp2_with fail
      go_loopw [11, 12, 15] (fun nn al i wq => ∃ (c X Y : Nat), c ≤ N2 ∧ i = .int .i64 c ∧ nn = .int .i64 X ∧ al = .int .i64 Y ∧ Hid (C + spI pp P2 L (LS2.take c) = X) ∧ Hid (D + spJ L (LS2.take c) = Y) ∧ X ≤ a * 10 + c ∧ Y ≤ a * 10 + c ∧ Hid (Own (shL (shI .i64)) 0 wq LS1 (.slice (some ⟨g1, 0, none⟩) N1 cap1) F1) ∧ Hid (Own (shL (shI .i64)) 0 wq LS2 (.slice A2 N2 cap2) F2) ∧ Below W0.heap.size W0 wq) (fun _ _ i _ => N2 - (intOf i).toNat)
      case atStart =>
        have hb7 := HB7.out
        exact ⟨0, C, D, Nat.zero_le _, rfl, rfl, rfl, Lib.hid rfl, Lib.hid rfl, by omega, by omega, Lib.hid (hO1.out.below (Nat.le_refl _) belA), Lib.hid (hO2.out.below (Nat.le_refl _) belA), belA⟩
      case round =>
        obtain ⟨c, X, Y, hc, rfl, rfl, rfl, hX, hY, hX10, hY10, hQ1, hQ2, hB2⟩ := hrel
        obtain ⟨V0, rfl⟩ : ∃ x, x = wr := ⟨_, rfl⟩
        by_cases hlt2 : c < N2
        · have hk9 : (c : Int) < (N2 : Int) := by omega
          have c1 := bkeep hB2 c0
          have HLi2 := Lib.hid (HLi.out.below hB2)
          obtain ⟨M, hM⟩ : ∃ M, LS2[c]? = some M := ⟨_, List.getElem?_eq_getElem (by rw [hN2.out]; exact hlt2)⟩
          obtain ⟨hVM, hMl⟩ := ok2.out M (List.mem_of_getElem? hM)
          obtain ⟨g2, cap6, Fj, vj, hv2, c2, _, hOj, _, _, _, _⟩ := own_rowI hQ2.out hM
          obtain ⟨rfl, hNl2, rfl⟩ : A2 = some ⟨g2, 0, none⟩ ∧ N2 = LS2.length ∧ cap2 = cap6 := by simpa using hv2
          have zg2 := World.block_lt_of_cell? _ _ c2
          have zg1 := World.block_lt_of_cell? _ _ c1
          simp only at zg2 zg1
          obtain ⟨A6, cap7, rfl, _, _, _⟩ := lstI hOj.lst
          have HMi := Lib.hid hOj.lst
          have HVM := Lib.hid hVM
          have hMm : k + M.length = m2 := by omega
          obtain ⟨LW, hLW⟩ : ∃ LW, Hid (leastI m2 k (onE e (seqI k ++ M)) = LW) := ⟨_, Lib.hid rfl⟩
          have HPM : Hid (P2 M = eq3 (k : Int) m2 LW k m2 LH) := Lib.hid (by rw [HPT2.out, hLW.out, eq3_k])
          have HMM := Lib.hid hM
          have hMl10 : M.length ≤ 100 := by omega
          have HKP14 : Hid (∀ V w' : World, Below V.heap.size V w' → (fun w' => w'.cell? ⟨g1, a, none⟩ = some (.slice A4 L.length cap5) ∧ w'.cell? ⟨g2, c, none⟩ = some (.slice A6 M.length cap7)) V → (fun w' => w'.cell? ⟨g1, a, none⟩ = some (.slice A4 L.length cap5) ∧ w'.cell? ⟨g2, c, none⟩ = some (.slice A6 M.length cap7)) w') := Lib.hid fun V w' hb h => ⟨bkeep hb h.1, bkeep hb h.2⟩
          clear hVM hM hNl2 hv2 hOj hMl
          cases hmt : meetB L M
          · have HMT := Lib.hid hmt
            clear hmt
            have k8 := bblk (hB.trans (hB2.mono hB.size)) y8 C8.out
            have kg := bblk (hB.trans (hB2.mono hB.size)) y2 C2.out
            have K8 := Lib.hid k8
            have KG := Lib.hid kg
            clear k8 kg
            have HKP16 : Hid (∀ V w' : World, Below V.heap.size V w' → (fun w' => w'.cell? ⟨w.heap.size + 1 + 1, 0, none⟩ = some (.int .i64 k) ∧ w'.cell? ⟨w.heap.size + 1 + 1, 1, none⟩ = some (.int .i64 n) ∧ w'.cell? ⟨w.heap.size + 1 + 1, 2, none⟩ = some (.int .u32 e) ∧ w'.cell? ⟨b8, 0, none⟩ = some (.int .i64 k) ∧ w'.cell? ⟨b8, 1, none⟩ = some (.int .i64 m2) ∧ w'.cell? ⟨b8, 2, none⟩ = some (.int .u32 LH) ∧ w'.cell? ⟨g2, c, none⟩ = some (.slice A6 M.length cap7)) V → (fun w' => w'.cell? ⟨w.heap.size + 1 + 1, 0, none⟩ = some (.int .i64 k) ∧ w'.cell? ⟨w.heap.size + 1 + 1, 1, none⟩ = some (.int .i64 n) ∧ w'.cell? ⟨w.heap.size + 1 + 1, 2, none⟩ = some (.int .u32 e) ∧ w'.cell? ⟨b8, 0, none⟩ = some (.int .i64 k) ∧ w'.cell? ⟨b8, 1, none⟩ = some (.int .i64 m2) ∧ w'.cell? ⟨b8, 2, none⟩ = some (.int .u32 LH) ∧ w'.cell? ⟨g2, c, none⟩ = some (.slice A6 M.length cap7)) w') := Lib.hid fun V w' hb h => ⟨bkeep hb h.1, bkeep hb h.2.1, bkeep hb h.2.2.1, bkeep hb h.2.2.2.1, bkeep hb h.2.2.2.2.1, bkeep hb h.2.2.2.2.2.1, bkeep hb h.2.2.2.2.2.2⟩
            cases pp
            · have hst1 : Hid (C + spI false P2 L (LS2.take (c + 1)) = X) := Lib.hid (by rw [spI_succ HMM.out, HMT.out]; simpa using hX.out)
              have hst2 : Hid (D + spJ L (LS2.take (c + 1)) = Y + 1) := Lib.hid (by rw [spJ_succ HMM.out, HMT.out]; have := hY.out; simp; omega)
              go_wp2_with fail
              (refine wp_region_held_drew (S := (fun w' => w'.cell? ⟨g1, a, none⟩ = some (.slice A4 L.length cap5) ∧ w'.cell? ⟨g2, c, none⟩ = some (.slice A6 M.length cap7))) (by kernel_rfl) ?_ (fun hHeld => ?_); (focus (first | exact hS | (simp [*, go_sem]; done) | fail)); refine rt 0 (some 48) (v := ?_) rfl rfl ?_ ?_; rotate_left; (focus (intro w' hSw; (try dsimp only at hSw); go_simp; (try with_reducible rfl))); (try simp only [Act.put, nA, nB, nC]); refine rt 1 (some 49) (v := ?_) rfl rfl ?_ ?_; rotate_left; (focus (intro w' hSw; (try dsimp only at hSw); go_simp; (try with_reducible rfl))); (try simp only [Act.put, nA, nB, nC]); refine rt 2 (some 50) (v := ?_) rfl rfl ?_ ?_; rotate_left; (focus (intro w' hSw; (try dsimp only at hSw); go_simp; (try with_reducible rfl))); (try simp only [Act.put, nA, nB, nC]); refine rt 3 (some 51) (v := ?_) rfl rfl ?_ ?_; rotate_left; (focus (intro w' hSw; (try dsimp only at hSw); go_simp; (try with_reducible rfl))); (try simp only [Act.put, nA, nB, nC]); refine rt 4 (some 52) (v := ?_) rfl rfl ?_ ?_; rotate_left; (focus (intro w' hSw; (try dsimp only at hSw); go_simp; (try with_reducible rfl))); (try simp only [Act.put, nA, nB, nC]); refine rt 5 (some 53) (v := ?_) rfl rfl ?_ ?_; rotate_left; (focus (intro w' hSw; (try dsimp only at hSw); go_simp; (try with_reducible rfl))); (try simp only [Act.put, nA, nB, nC]); refine rt 6 (some 54) (v := ?_) rfl rfl ?_ ?_; rotate_left; (focus (intro w' hSw; (try dsimp only at hSw); go_simp; (try with_reducible rfl))); (try simp only [Act.put, nA, nB, nC]); refine rt 7 (some 55) (v := ?_) rfl rfl ?_ ?_; rotate_left; (focus (intro w' hSw; (try dsimp only at hSw); go_simp; (try with_reducible rfl))); (try simp only [Act.put, nA, nB, nC]); refine wpAnyH_ready (rs := [8]) (by kernel_rfl) (by simp) ?_; refine AllReadyH.cons rfl (fun K hK => ?_) AllReadyH.nil; go_simp; (go_at_call 207; refine Calls.mono (l04Meet_any _ L M _ _ (HLi2.out.below belA) (HMi.out.below belA) hLl10 hMl10) ?_; rw [HMT.out]; rintro e0 w8 ⟨rfl, hb⟩; have hS := HKP14.out _ _ hb hHeld; have HB8 := Lib.hid (show Below V0.heap.size V0 w8 from Below.trans belA (hb.mono (by first | exact Nat.le_refl _ | (simp; done)))); have hz8 := HB8.out.size; clear hb); go_wp2_with fail; refine hK.out _ _ ?_ (fun hHeld => ?_); (focus (first | exact hS | (simp [*, go_sem]; done) | fail)); clear hK K; (try simp only [Act.put, nA, nB, nC]); refine wpAnyH_done (by kernel_rfl) ?_ _)
              clear hHeld
              have k88 := bblk HB8.out (blklt K8.out) K8.out
              obtain ⟨l80, l81, l82⟩ := blkc3 k88
              have yk8 := blklt k88
              have kg8 := bblk HB8.out (blklt KG.out) KG.out
              obtain ⟨g80, g81, g82⟩ := blkc3 kg8
              have yg8 := blklt kg8
              have c28 := bkeep HB8.out c2
              have zg8 : g2 < w8.heap.size := by omega
              clear k88 kg8
              go_wp2_with fail
              (refine wp_region_held_drew (S := (fun w' => w'.cell? ⟨w.heap.size + 1 + 1, 0, none⟩ = some (.int .i64 k) ∧ w'.cell? ⟨w.heap.size + 1 + 1, 1, none⟩ = some (.int .i64 n) ∧ w'.cell? ⟨w.heap.size + 1 + 1, 2, none⟩ = some (.int .u32 e) ∧ w'.cell? ⟨b8, 0, none⟩ = some (.int .i64 k) ∧ w'.cell? ⟨b8, 1, none⟩ = some (.int .i64 m2) ∧ w'.cell? ⟨b8, 2, none⟩ = some (.int .u32 LH) ∧ w'.cell? ⟨g2, c, none⟩ = some (.slice A6 M.length cap7))) (by kernel_rfl) ?_ (fun hHeld => ?_); (focus (first | exact hS | (simp [*, go_sem]; done) | fail)); refine rt 0 (some 59) (v := ?_) rfl rfl ?_ ?_; rotate_left; (focus (intro w' hSw; (try dsimp only at hSw); go_simp; (try with_reducible rfl))); (try simp only [Act.put, nA, nB, nC]); refine rt 1 (some 60) (v := ?_) rfl rfl ?_ ?_; rotate_left; (focus (intro w' hSw; (try dsimp only at hSw); go_simp; (try with_reducible rfl))); (try simp only [Act.put, nA, nB, nC]); refine rg_take 2 (some 61) (v := undef) rfl (by kernel_rfl) (by kernel_rfl) (by kernel_rfl) (by kernel_rfl) (fun _ _ _ h => h) (Or.inr ⟨by kernel_rfl, rfl⟩) (by assumption) ?_; (try simp only [Act.put, nA, nB, nC]); refine rg_take 3 (some 62) (v := undef) rfl (by kernel_rfl) (by kernel_rfl) (by kernel_rfl) (by kernel_rfl) (fun _ _ _ h => h) (Or.inr ⟨by kernel_rfl, rfl⟩) (by assumption) ?_; (try simp only [Act.put, nA, nB, nC]); refine rg_take 4 (some 63) (v := undef) rfl (by kernel_rfl) (by kernel_rfl) (by kernel_rfl) (by kernel_rfl) (fun _ _ _ h => h) (Or.inr ⟨by kernel_rfl, rfl⟩) (by assumption) ?_; (try simp only [Act.put, nA, nB, nC]); refine rg_take 5 (some 64) (v := undef) rfl (by kernel_rfl) (by kernel_rfl) (by kernel_rfl) (by kernel_rfl) (fun _ _ _ h => h) (Or.inr ⟨by kernel_rfl, rfl⟩) (by assumption) ?_; (try simp only [Act.put, nA, nB, nC]); refine rg_take 6 (some 65) (v := undef) rfl (by kernel_rfl) (by kernel_rfl) (by kernel_rfl) (by kernel_rfl) (fun _ _ _ h => h) (Or.inr ⟨by kernel_rfl, rfl⟩) (by assumption) ?_; (try simp only [Act.put, nA, nB, nC]); refine rg_take 7 (some 66) (v := undef) rfl (by kernel_rfl) (by kernel_rfl) (by kernel_rfl) (by kernel_rfl) (fun _ _ _ h => h) (Or.inr ⟨by kernel_rfl, rfl⟩) (by assumption) ?_; (try simp only [Act.put, nA, nB, nC]); refine rg_take 8 (some 67) (v := undef) rfl (by kernel_rfl) (by kernel_rfl) (by kernel_rfl) (by kernel_rfl) (fun _ _ _ h => h) (Or.inr ⟨by kernel_rfl, rfl⟩) (by assumption) ?_; (try simp only [Act.put, nA, nB, nC]); refine rg_take 9 (some 68) (v := undef) rfl (by kernel_rfl) (by kernel_rfl) (by kernel_rfl) (by kernel_rfl) (fun _ _ _ h => h) (Or.inr ⟨by kernel_rfl, rfl⟩) (by assumption) ?_; (try simp only [Act.put, nA, nB, nC]); refine rt 10 (some 69) (v := ?_) rfl rfl ?_ ?_; rotate_left; (focus (intro w' hSw; (try dsimp only at hSw); go_simp; (try with_reducible rfl))); (try simp only [Act.put, nA, nB, nC]); refine wpAnyH_done (by kernel_rfl) ?_ _)
              clear hHeld
              go_wp2_with fail
              go_roundw
              case rel =>
                have hb8 := HB8.out
                have hb8d : Below V0.heap.size V0 w8.drew := belA
                exact ⟨c + 1, X, Y + 1, by omega, by go_num, rfl, by go_num, hst1, hst2, by omega, by omega, Lib.hid (hQ1.out.below (Nat.le_refl _) hb8d), Lib.hid (hQ2.out.below (Nat.le_refl _) hb8d), hB2.trans (hb8d.mono hB2.size)⟩
              case measure => simp [intOf]; omega
            · cases hqq : eq3 (k : Int) m2 LW k m2 LH
              · have hst1 : Hid (C + spI true P2 L (LS2.take (c + 1)) = X) := Lib.hid (by rw [spI_succ HMM.out, HMT.out, HPM.out, hqq]; simpa using hX.out)
                have hst2 : Hid (D + spJ L (LS2.take (c + 1)) = Y + 1) := Lib.hid (by rw [spJ_succ HMM.out, HMT.out]; have := hY.out; simp; omega)
                go_wp2_with fail
                (refine wp_region_held_drew (S := (fun w' => w'.cell? ⟨g1, a, none⟩ = some (.slice A4 L.length cap5) ∧ w'.cell? ⟨g2, c, none⟩ = some (.slice A6 M.length cap7))) (by kernel_rfl) ?_ (fun hHeld => ?_); (focus (first | exact hS | (simp [*, go_sem]; done) | fail)); refine rt 0 (some 48) (v := ?_) rfl rfl ?_ ?_; rotate_left; (focus (intro w' hSw; (try dsimp only at hSw); go_simp; (try with_reducible rfl))); (try simp only [Act.put, nA, nB, nC]); refine rt 1 (some 49) (v := ?_) rfl rfl ?_ ?_; rotate_left; (focus (intro w' hSw; (try dsimp only at hSw); go_simp; (try with_reducible rfl))); (try simp only [Act.put, nA, nB, nC]); refine rt 2 (some 50) (v := ?_) rfl rfl ?_ ?_; rotate_left; (focus (intro w' hSw; (try dsimp only at hSw); go_simp; (try with_reducible rfl))); (try simp only [Act.put, nA, nB, nC]); refine rt 3 (some 51) (v := ?_) rfl rfl ?_ ?_; rotate_left; (focus (intro w' hSw; (try dsimp only at hSw); go_simp; (try with_reducible rfl))); (try simp only [Act.put, nA, nB, nC]); refine rt 4 (some 52) (v := ?_) rfl rfl ?_ ?_; rotate_left; (focus (intro w' hSw; (try dsimp only at hSw); go_simp; (try with_reducible rfl))); (try simp only [Act.put, nA, nB, nC]); refine rt 5 (some 53) (v := ?_) rfl rfl ?_ ?_; rotate_left; (focus (intro w' hSw; (try dsimp only at hSw); go_simp; (try with_reducible rfl))); (try simp only [Act.put, nA, nB, nC]); refine rt 6 (some 54) (v := ?_) rfl rfl ?_ ?_; rotate_left; (focus (intro w' hSw; (try dsimp only at hSw); go_simp; (try with_reducible rfl))); (try simp only [Act.put, nA, nB, nC]); refine rt 7 (some 55) (v := ?_) rfl rfl ?_ ?_; rotate_left; (focus (intro w' hSw; (try dsimp only at hSw); go_simp; (try with_reducible rfl))); (try simp only [Act.put, nA, nB, nC]); refine wpAnyH_ready (rs := [8]) (by kernel_rfl) (by simp) ?_; refine AllReadyH.cons rfl (fun K hK => ?_) AllReadyH.nil; go_simp; (go_at_call 207; refine Calls.mono (l04Meet_any _ L M _ _ (HLi2.out.below belA) (HMi.out.below belA) hLl10 hMl10) ?_; rw [HMT.out]; rintro e0 w8 ⟨rfl, hb⟩; have hS := HKP14.out _ _ hb hHeld; have HB8 := Lib.hid (show Below V0.heap.size V0 w8 from Below.trans belA (hb.mono (by first | exact Nat.le_refl _ | (simp; done)))); have hz8 := HB8.out.size; clear hb); go_wp2_with fail; refine hK.out _ _ ?_ (fun hHeld => ?_); (focus (first | exact hS | (simp [*, go_sem]; done) | fail)); clear hK K; (try simp only [Act.put, nA, nB, nC]); refine wpAnyH_done (by kernel_rfl) ?_ _)
                clear hHeld
                have k88 := bblk HB8.out (blklt K8.out) K8.out
                obtain ⟨l80, l81, l82⟩ := blkc3 k88
                have yk8 := blklt k88
                have kg8 := bblk HB8.out (blklt KG.out) KG.out
                obtain ⟨g80, g81, g82⟩ := blkc3 kg8
                have yg8 := blklt kg8
                have c28 := bkeep HB8.out c2
                have zg8 : g2 < w8.heap.size := by omega
                clear k88 kg8
                go_wp2_with fail
                (refine wp_region_held_drew (S := (fun w' => w'.cell? ⟨w.heap.size + 1 + 1, 0, none⟩ = some (.int .i64 k) ∧ w'.cell? ⟨w.heap.size + 1 + 1, 1, none⟩ = some (.int .i64 n) ∧ w'.cell? ⟨w.heap.size + 1 + 1, 2, none⟩ = some (.int .u32 e) ∧ w'.cell? ⟨b8, 0, none⟩ = some (.int .i64 k) ∧ w'.cell? ⟨b8, 1, none⟩ = some (.int .i64 m2) ∧ w'.cell? ⟨b8, 2, none⟩ = some (.int .u32 LH) ∧ w'.cell? ⟨g2, c, none⟩ = some (.slice A6 M.length cap7))) (by kernel_rfl) ?_ (fun hHeld => ?_); (focus (first | exact hS | (simp [*, go_sem]; done) | fail)); refine rt 0 (some 59) (v := ?_) rfl rfl ?_ ?_; rotate_left; (focus (intro w' hSw; (try dsimp only at hSw); go_simp; (try with_reducible rfl))); (try simp only [Act.put, nA, nB, nC]); refine rt 1 (some 60) (v := ?_) rfl rfl ?_ ?_; rotate_left; (focus (intro w' hSw; (try dsimp only at hSw); go_simp; (try with_reducible rfl))); (try simp only [Act.put, nA, nB, nC]); refine rt 2 (some 61) (v := ?_) rfl rfl ?_ ?_; rotate_left; (focus (intro w' hSw; (try dsimp only at hSw); go_simp; (try with_reducible rfl))); (try simp only [Act.put, nA, nB, nC]); refine rt 3 (some 62) (v := ?_) rfl rfl ?_ ?_; rotate_left; (focus (intro w' hSw; (try dsimp only at hSw); go_simp; (try with_reducible rfl))); (try simp only [Act.put, nA, nB, nC]); refine rt 4 (some 63) (v := ?_) rfl rfl ?_ ?_; rotate_left; (focus (intro w' hSw; (try dsimp only at hSw); go_simp; (try with_reducible rfl))); (try simp only [Act.put, nA, nB, nC]); refine rt 5 (some 64) (v := ?_) rfl rfl ?_ ?_; rotate_left; (focus (intro w' hSw; (try dsimp only at hSw); go_simp; (try with_reducible rfl))); (try simp only [Act.put, nA, nB, nC]); refine rt 6 (some 65) (v := ?_) rfl rfl ?_ ?_; rotate_left; (focus (intro w' hSw; (try dsimp only at hSw); go_simp; (try with_reducible rfl))); (try simp only [Act.put, nA, nB, nC]); refine rt 8 (some 67) (v := ?_) rfl rfl ?_ ?_; rotate_left; (focus (intro w' hSw; (try dsimp only at hSw); go_simp; (try with_reducible rfl))); (try simp only [Act.put, nA, nB, nC]); refine wpAnyH_ready (rs := [7]) (by kernel_rfl) (by simp) ?_; refine AllReadyH.cons rfl (fun K hK => ?_) AllReadyH.nil; go_simp; (go_at_call 206; refine Calls.mono (l03Part_any _ k n m2 e M _ hk5 ((HMi.out.below HB8.out).below belA) HVM.out hMm) ?_; rw [hLW.out]; rintro e0 w9 ⟨rfl, hb⟩; have hS := HKP16.out _ _ hb hHeld; have hb8 := HB8.out; have HB9 := Lib.hid (show Below V0.heap.size V0 w9 from Below.trans belA (hb.mono (by first | omega | (simp <;> omega)))); have hz9 := HB9.out.size; clear hb hb8); go_wp2_with fail; refine hK.out _ _ ?_ (fun hHeld => ?_); (focus (first | exact hS | (simp [*, go_sem]; done) | fail)); clear hK K; (try simp only [Act.put, nA, nB, nC]); refine rt 9 (some 68) (v := ?_) rfl rfl ?_ ?_; rotate_left; (focus (intro w' hSw; (try dsimp only at hSw); go_simp; (try with_reducible rfl))); (try simp only [Act.put, nA, nB, nC]); refine rt 10 (some 69) (v := ?_) rfl rfl ?_ ?_; rotate_left; (focus (intro w' hSw; (try dsimp only at hSw); go_simp; (try with_reducible rfl))); (try simp only [Act.put, nA, nB, nC]); refine wpAnyH_done (by kernel_rfl) ?_ _)
                clear hHeld
                go_wp2_with fail
                go_roundw
                case rel => exact ⟨c + 1, X, Y + 1, by omega, by go_num, rfl, by go_num, hst1, hst2, by omega, by omega, Lib.hid (hQ1.out.below (Nat.le_refl _) HB9.out), Lib.hid (hQ2.out.below (Nat.le_refl _) HB9.out), hB2.trans (HB9.out.mono hB2.size)⟩
                case measure => simp [intOf]; omega
              · have hst1 : Hid (C + spI true P2 L (LS2.take (c + 1)) = X + 1) := Lib.hid (by rw [spI_succ HMM.out, HMT.out, HPM.out, hqq]; have := hX.out; simp; omega)
                have hst2 : Hid (D + spJ L (LS2.take (c + 1)) = Y + 1) := Lib.hid (by rw [spJ_succ HMM.out, HMT.out]; have := hY.out; simp; omega)
                go_wp2_with fail
                (refine wp_region_held_drew (S := (fun w' => w'.cell? ⟨g1, a, none⟩ = some (.slice A4 L.length cap5) ∧ w'.cell? ⟨g2, c, none⟩ = some (.slice A6 M.length cap7))) (by kernel_rfl) ?_ (fun hHeld => ?_); (focus (first | exact hS | (simp [*, go_sem]; done) | fail)); refine rt 0 (some 48) (v := ?_) rfl rfl ?_ ?_; rotate_left; (focus (intro w' hSw; (try dsimp only at hSw); go_simp; (try with_reducible rfl))); (try simp only [Act.put, nA, nB, nC]); refine rt 1 (some 49) (v := ?_) rfl rfl ?_ ?_; rotate_left; (focus (intro w' hSw; (try dsimp only at hSw); go_simp; (try with_reducible rfl))); (try simp only [Act.put, nA, nB, nC]); refine rt 2 (some 50) (v := ?_) rfl rfl ?_ ?_; rotate_left; (focus (intro w' hSw; (try dsimp only at hSw); go_simp; (try with_reducible rfl))); (try simp only [Act.put, nA, nB, nC]); refine rt 3 (some 51) (v := ?_) rfl rfl ?_ ?_; rotate_left; (focus (intro w' hSw; (try dsimp only at hSw); go_simp; (try with_reducible rfl))); (try simp only [Act.put, nA, nB, nC]); refine rt 4 (some 52) (v := ?_) rfl rfl ?_ ?_; rotate_left; (focus (intro w' hSw; (try dsimp only at hSw); go_simp; (try with_reducible rfl))); (try simp only [Act.put, nA, nB, nC]); refine rt 5 (some 53) (v := ?_) rfl rfl ?_ ?_; rotate_left; (focus (intro w' hSw; (try dsimp only at hSw); go_simp; (try with_reducible rfl))); (try simp only [Act.put, nA, nB, nC]); refine rt 6 (some 54) (v := ?_) rfl rfl ?_ ?_; rotate_left; (focus (intro w' hSw; (try dsimp only at hSw); go_simp; (try with_reducible rfl))); (try simp only [Act.put, nA, nB, nC]); refine rt 7 (some 55) (v := ?_) rfl rfl ?_ ?_; rotate_left; (focus (intro w' hSw; (try dsimp only at hSw); go_simp; (try with_reducible rfl))); (try simp only [Act.put, nA, nB, nC]); refine wpAnyH_ready (rs := [8]) (by kernel_rfl) (by simp) ?_; refine AllReadyH.cons rfl (fun K hK => ?_) AllReadyH.nil; go_simp; (go_at_call 207; refine Calls.mono (l04Meet_any _ L M _ _ (HLi2.out.below belA) (HMi.out.below belA) hLl10 hMl10) ?_; rw [HMT.out]; rintro e0 w8 ⟨rfl, hb⟩; have hS := HKP14.out _ _ hb hHeld; have HB8 := Lib.hid (show Below V0.heap.size V0 w8 from Below.trans belA (hb.mono (by first | exact Nat.le_refl _ | (simp; done)))); have hz8 := HB8.out.size; clear hb); go_wp2_with fail; refine hK.out _ _ ?_ (fun hHeld => ?_); (focus (first | exact hS | (simp [*, go_sem]; done) | fail)); clear hK K; (try simp only [Act.put, nA, nB, nC]); refine wpAnyH_done (by kernel_rfl) ?_ _)
                clear hHeld
                have k88 := bblk HB8.out (blklt K8.out) K8.out
                obtain ⟨l80, l81, l82⟩ := blkc3 k88
                have yk8 := blklt k88
                have kg8 := bblk HB8.out (blklt KG.out) KG.out
                obtain ⟨g80, g81, g82⟩ := blkc3 kg8
                have yg8 := blklt kg8
                have c28 := bkeep HB8.out c2
                have zg8 : g2 < w8.heap.size := by omega
                clear k88 kg8
                go_wp2_with fail
                (refine wp_region_held_drew (S := (fun w' => w'.cell? ⟨w.heap.size + 1 + 1, 0, none⟩ = some (.int .i64 k) ∧ w'.cell? ⟨w.heap.size + 1 + 1, 1, none⟩ = some (.int .i64 n) ∧ w'.cell? ⟨w.heap.size + 1 + 1, 2, none⟩ = some (.int .u32 e) ∧ w'.cell? ⟨b8, 0, none⟩ = some (.int .i64 k) ∧ w'.cell? ⟨b8, 1, none⟩ = some (.int .i64 m2) ∧ w'.cell? ⟨b8, 2, none⟩ = some (.int .u32 LH) ∧ w'.cell? ⟨g2, c, none⟩ = some (.slice A6 M.length cap7))) (by kernel_rfl) ?_ (fun hHeld => ?_); (focus (first | exact hS | (simp [*, go_sem]; done) | fail)); refine rt 0 (some 59) (v := ?_) rfl rfl ?_ ?_; rotate_left; (focus (intro w' hSw; (try dsimp only at hSw); go_simp; (try with_reducible rfl))); (try simp only [Act.put, nA, nB, nC]); refine rt 1 (some 60) (v := ?_) rfl rfl ?_ ?_; rotate_left; (focus (intro w' hSw; (try dsimp only at hSw); go_simp; (try with_reducible rfl))); (try simp only [Act.put, nA, nB, nC]); refine rt 2 (some 61) (v := ?_) rfl rfl ?_ ?_; rotate_left; (focus (intro w' hSw; (try dsimp only at hSw); go_simp; (try with_reducible rfl))); (try simp only [Act.put, nA, nB, nC]); refine rt 3 (some 62) (v := ?_) rfl rfl ?_ ?_; rotate_left; (focus (intro w' hSw; (try dsimp only at hSw); go_simp; (try with_reducible rfl))); (try simp only [Act.put, nA, nB, nC]); refine rt 4 (some 63) (v := ?_) rfl rfl ?_ ?_; rotate_left; (focus (intro w' hSw; (try dsimp only at hSw); go_simp; (try with_reducible rfl))); (try simp only [Act.put, nA, nB, nC]); refine rt 5 (some 64) (v := ?_) rfl rfl ?_ ?_; rotate_left; (focus (intro w' hSw; (try dsimp only at hSw); go_simp; (try with_reducible rfl))); (try simp only [Act.put, nA, nB, nC]); refine rt 6 (some 65) (v := ?_) rfl rfl ?_ ?_; rotate_left; (focus (intro w' hSw; (try dsimp only at hSw); go_simp; (try with_reducible rfl))); (try simp only [Act.put, nA, nB, nC]); refine rt 8 (some 67) (v := ?_) rfl rfl ?_ ?_; rotate_left; (focus (intro w' hSw; (try dsimp only at hSw); go_simp; (try with_reducible rfl))); (try simp only [Act.put, nA, nB, nC]); refine wpAnyH_ready (rs := [7]) (by kernel_rfl) (by simp) ?_; refine AllReadyH.cons rfl (fun K hK => ?_) AllReadyH.nil; go_simp; (go_at_call 206; refine Calls.mono (l03Part_any _ k n m2 e M _ hk5 ((HMi.out.below HB8.out).below belA) HVM.out hMm) ?_; rw [hLW.out]; rintro e0 w9 ⟨rfl, hb⟩; have hS := HKP16.out _ _ hb hHeld; have hb8 := HB8.out; have HB9 := Lib.hid (show Below V0.heap.size V0 w9 from Below.trans belA (hb.mono (by first | omega | (simp <;> omega)))); have hz9 := HB9.out.size; clear hb hb8); go_wp2_with fail; refine hK.out _ _ ?_ (fun hHeld => ?_); (focus (first | exact hS | (simp [*, go_sem]; done) | fail)); clear hK K; (try simp only [Act.put, nA, nB, nC]); refine rt 9 (some 68) (v := ?_) rfl rfl ?_ ?_; rotate_left; (focus (intro w' hSw; (try dsimp only at hSw); go_simp; (try with_reducible rfl))); (try simp only [Act.put, nA, nB, nC]); refine rt 10 (some 69) (v := ?_) rfl rfl ?_ ?_; rotate_left; (focus (intro w' hSw; (try dsimp only at hSw); go_simp; (try with_reducible rfl))); (try simp only [Act.put, nA, nB, nC]); refine wpAnyH_done (by kernel_rfl) ?_ _)
                clear hHeld
                go_wp2_with fail
                go_roundw
                case rel => exact ⟨c + 1, X + 1, Y + 1, by omega, by go_num, by go_num, by go_num, hst1, hst2, by omega, by omega, Lib.hid (hQ1.out.below (Nat.le_refl _) HB9.out), Lib.hid (hQ2.out.below (Nat.le_refl _) HB9.out), hB2.trans (HB9.out.mono hB2.size)⟩
                case measure => simp [intOf]; omega
          · have HMT := Lib.hid hmt
            clear hmt
            have hst1 : Hid (C + spI pp P2 L (LS2.take (c + 1)) = X) := Lib.hid (by rw [spI_succ HMM.out, HMT.out]; simpa using hX.out)
            have hst2 : Hid (D + spJ L (LS2.take (c + 1)) = Y) := Lib.hid (by rw [spJ_succ HMM.out, HMT.out]; simpa using hY.out)
            go_wp2_with fail
            (refine wp_region_held_drew (S := (fun w' => w'.cell? ⟨g1, a, none⟩ = some (.slice A4 L.length cap5) ∧ w'.cell? ⟨g2, c, none⟩ = some (.slice A6 M.length cap7))) (by kernel_rfl) ?_ (fun hHeld => ?_); (focus (first | exact hS | (simp [*, go_sem]; done) | fail)); refine rt 0 (some 48) (v := ?_) rfl rfl ?_ ?_; rotate_left; (focus (intro w' hSw; (try dsimp only at hSw); go_simp; (try with_reducible rfl))); (try simp only [Act.put, nA, nB, nC]); refine rt 1 (some 49) (v := ?_) rfl rfl ?_ ?_; rotate_left; (focus (intro w' hSw; (try dsimp only at hSw); go_simp; (try with_reducible rfl))); (try simp only [Act.put, nA, nB, nC]); refine rt 2 (some 50) (v := ?_) rfl rfl ?_ ?_; rotate_left; (focus (intro w' hSw; (try dsimp only at hSw); go_simp; (try with_reducible rfl))); (try simp only [Act.put, nA, nB, nC]); refine rt 3 (some 51) (v := ?_) rfl rfl ?_ ?_; rotate_left; (focus (intro w' hSw; (try dsimp only at hSw); go_simp; (try with_reducible rfl))); (try simp only [Act.put, nA, nB, nC]); refine rt 4 (some 52) (v := ?_) rfl rfl ?_ ?_; rotate_left; (focus (intro w' hSw; (try dsimp only at hSw); go_simp; (try with_reducible rfl))); (try simp only [Act.put, nA, nB, nC]); refine rt 5 (some 53) (v := ?_) rfl rfl ?_ ?_; rotate_left; (focus (intro w' hSw; (try dsimp only at hSw); go_simp; (try with_reducible rfl))); (try simp only [Act.put, nA, nB, nC]); refine rt 6 (some 54) (v := ?_) rfl rfl ?_ ?_; rotate_left; (focus (intro w' hSw; (try dsimp only at hSw); go_simp; (try with_reducible rfl))); (try simp only [Act.put, nA, nB, nC]); refine rt 7 (some 55) (v := ?_) rfl rfl ?_ ?_; rotate_left; (focus (intro w' hSw; (try dsimp only at hSw); go_simp; (try with_reducible rfl))); (try simp only [Act.put, nA, nB, nC]); refine wpAnyH_ready (rs := [8]) (by kernel_rfl) (by simp) ?_; refine AllReadyH.cons rfl (fun K hK => ?_) AllReadyH.nil; go_simp; (go_at_call 207; refine Calls.mono (l04Meet_any _ L M _ _ (HLi2.out.below belA) (HMi.out.below belA) hLl10 hMl10) ?_; rw [HMT.out]; rintro e0 w8 ⟨rfl, hb⟩; have hS := HKP14.out _ _ hb hHeld; have HB8 := Lib.hid (show Below V0.heap.size V0 w8 from Below.trans belA (hb.mono (by first | exact Nat.le_refl _ | (simp; done)))); have hz8 := HB8.out.size; clear hb); go_wp2_with fail; refine hK.out _ _ ?_ (fun hHeld => ?_); (focus (first | exact hS | (simp [*, go_sem]; done) | fail)); clear hK K; (try simp only [Act.put, nA, nB, nC]); refine wpAnyH_done (by kernel_rfl) ?_ _)
            clear hHeld
            go_wp2_with fail
            go_roundw
            case rel => exact ⟨c + 1, X, Y, by omega, by go_num, rfl, rfl, hst1, hst2, by omega, by omega, Lib.hid (hQ1.out.below (Nat.le_refl _) HB8.out), Lib.hid (hQ2.out.below (Nat.le_refl _) HB8.out), hB2.trans (HB8.out.mono hB2.size)⟩
            case measure => simp [intOf]; omega
        · have ee2 : c = N2 := by omega
          have hst1 : Hid (spM P1 P2 LS1 LS2 (a + 1) = X) := Lib.hid (by rw [spM_succ HLL.out, hC.out, HPL.out, ← hX.out, ee2, ← hN2.out, List.take_length])
          have hst2 : Hid (spA LS1 LS2 (a + 1) = Y) := Lib.hid (by rw [spA_succ HLL.out, hD.out, ← hY.out, ee2, ← hN2.out, List.take_length])
          go_wp2_with fail
          go_roundw
          case rel => exact ⟨a + 1, X, Y, by omega, by go_num, rfl, rfl, hst1, hst2, by omega, by omega, hQ1, hQ2, hB.trans (hB2.mono hB.size)⟩
          case measure => simp [intOf]; omega
    · have ee : a = N1 := by omega
      subst ee
      have hCe : (jnM P1 P2 k n q1 q2 : Nat) = C := by rw [← HEND.out.1]; exact hC.out
      have hDe : (jnA k n q1 q2 : Nat) = D := by rw [← HEND.out.2]; exact hD.out
      rw [hCe] at b3
      rw [hDe] at b1 b2
      have hr : Hid (jns P1 P2 k n q1 q2 = (lowP C D, lowQ C D)) := Lib.hid (by unfold jns; rw [hCe, hDe])
      have kr := bblk hB y3 C3.out
      obtain ⟨r0, r1, r2, r3⟩ := blk2 kr
      have yr := blklt kr
      have hBw := HBW.out.trans (hB.mono hzW)
      clear hCe hDe kr hB
      go_wp2_with fail
      refine Calls.mono (l04Ratio2_any _ C D ⟨by omega, by omega⟩ ⟨by omega, by omega⟩) ?_
      rintro e0 w9 ⟨rfl, hb⟩
      obtain ⟨X9, m9, rfl⟩ := plsOf hb
      clear hb
      go_wp2_with fail
      exact bodyPost_ret (v := .agg #[.int .i64 (lowP C D), .int .i64 (lowQ C D)]) (by simp [results, Tryz.results129, go_sem, *]) rfl ⟨by rw [hr.out], belA⟩
end Go.Proofs.YtekchdgpaemofaaGreat
