import Derived.Test.YtekchdgpaemofaaGreatYyAy
import Derived.Test.YtekchdgpaemofaaGreatYyDt
namespace Go.Proofs.YtekchdgpaemofaaGreat
open Go.ChangeShapes Go.WideShapes Go.RowKit
set_option linter.unusedVariables false
set_option linter.unusedSimpArgs false
attribute [local irreducible] Calls
def lsIn (L : List Int) (v : Nat) : List (List Int) := (rstI L v).map fun d => L ++ [d]
def lsRd (n : Nat) (LS : List (List Int)) (j : Nat) : List (List Int) := (LS.take j).flatMap fun L => lsIn L n
def lists4 (n : Nat) : Nat → List (List Int)
  | 0 => [[]]
  | i + 1 => lsRd n (lists4 n i) (lists4 n i).length
theorem lsIn_succ (L : List Int) (v : Nat) : lsIn L (v + 1) = lsIn L v ++ (if memB L (v : Int) then [] else [L ++ [(v : Int)]]) := by
  unfold lsIn
  rw [rstI_succ, List.map_append]
  congr 1
  split <;> rfl
theorem lsIn_len (L : List Int) (v : Nat) : (lsIn L v).length ≤ v := by
  unfold lsIn
  rw [List.length_map]
  exact rstI_len L v
theorem lsRd_succ {n : Nat} {LS : List (List Int)} {j : Nat} {L : List Int} (h : LS[j]? = some L) : lsRd n LS (j + 1) = lsRd n LS j ++ lsIn L n := by
  unfold lsRd
  rw [List.take_add_one, h, List.flatMap_append]
  simp
theorem lsRd_len (n : Nat) (LS : List (List Int)) : ∀ j, (lsRd n LS j).length ≤ j * n
  | 0 => by simp [lsRd]
  | j + 1 => by
    have ih := lsRd_len n LS j
    rcases h : LS[j]? with _ | L
    · have : lsRd n LS (j + 1) = lsRd n LS j := by unfold lsRd; rw [List.take_add_one, h]; simp
      rw [this]
      have : j * n ≤ (j + 1) * n := Nat.mul_le_mul_right _ (by omega)
      omega
    · rw [lsRd_succ h, List.length_append]
      have := lsIn_len L n
      rw [Nat.succ_mul]
      omega
theorem lists4_bds : ∀ n ≤ 5, ∀ k ≤ 3, (decide ((lists4 n k).length ≤ 60) && (lists4 n k).all fun L => decide (L.length = k)) = true := by decide +kernel
theorem lists4_bd {n k : Nat} (hn : n ≤ 5) (hk : k ≤ 3) : (lists4 n k).length ≤ 60 ∧ ∀ L ∈ lists4 n k, L.length = k := by
  have h := lists4_bds n hn k hk
  simp only [Bool.and_eq_true, decide_eq_true_eq, List.all_eq_true] at h
  exact h
theorem AppS.one {B : Nat} {w : World} {g : Nat} {A : Option Addr} (hg : w.heap[g]? = some (.cells #[.slice A 0 0] 168 (0, 0))) (hB : B ≤ g) : AppS (shL (shI .i64)) B 168 w (.slice (some ⟨g, 0, none⟩) 1 1) ([[]] : List (List Int)) :=
  ⟨[.slice A 0 0], [], ⟨by simp, .inr ⟨g, 1, #[.slice A 0 0], rfl, hB, hg, Nat.le_refl _, by decide, by simp, by simp⟩⟩, (Rows.nil (shL (shI .i64)) w).snoc (d := ([] : List Int)) (Own.nil (shI .i64) B w 0 (Nat.zero_le _) A).1, by simp, by simp, by simp⟩
theorem AppS.low {s : Sh} {B B' : Nat} {e : TypeId} {w : World} {v : Value} {xs : List s.T} (h : AppS s B' e w v xs) (hB : B ≤ B') : AppS s B e w v xs := by
  obtain ⟨L, F, ⟨h1, h2⟩, h3, h4, h5, h6⟩ := h
  refine ⟨L, F, ⟨h1, ?_⟩, h3, h4, fun b hb => Nat.le_trans hB (h5 b hb), h6⟩
  rcases h2 with h2 | ⟨g, cap, cur, hv, hg, r⟩
  · exact .inl h2
  · exact .inr ⟨g, cap, cur, hv, Nat.le_trans hB hg, r⟩
set_option maxHeartbeats 2000000 in
set_option maxRecDepth 20000 in
theorem l04Lists_any (w : World) (n k : Nat) (hn : n ≤ 5) (hk : k ≤ 3) : Calls Tryz.prog 157 #[.int .i64 k, .int .i64 n] w (LsRet w (lists4 n k)) := by
  obtain ⟨i1, z1, hi1, hz1, hs1, hb1, hl1⟩ := infoB_spec (P := Tryz.prog) (e := 2) (sz := 1) (bytes := 8) (by kernel_rfl)
  obtain ⟨i2, z2, hi2, hz2, hs2, hb2, hl2⟩ := infoB_spec (P := Tryz.prog) (e := 168) (sz := 1) (bytes := 24) (by kernel_rfl)
  have I1 := Lib.hid hi1
  have I2 := Lib.hid hi2
  have Z1 := Lib.hid hz1
  have Z2 := Lib.hid hz2
  clear hi1 hi2 hz1 hz2
  go_enter Tryz.func157, Tryz.ntmps157
  go_wp2_with fail
  go_loopw [5, 6] (fun o i wr => ∃ (a : Nat), a ≤ k ∧ i = .int .i64 a ∧ Hid (AppS (shL (shI .i64)) w.heap.size 168 wr o (lists4 n a)) ∧ Below w.heap.size w wr) (fun _ i _ => k - (intOf i).toNat)
  case atStart => exact ⟨0, Nat.zero_le _, rfl, Lib.hid (AppS.one blkA (by simp <;> omega)), belA⟩
  case round =>
    obtain ⟨a, ha, rfl, hA, hB⟩ := hrel
    obtain ⟨LS, hLS⟩ : ∃ LS, Hid (lists4 n a = LS) := ⟨_, Lib.hid rfl⟩
    obtain ⟨N, hN⟩ : ∃ N, Hid (LS.length = N) := ⟨_, Lib.hid rfl⟩
    have hbd := lists4_bd hn (show a ≤ 3 by omega)
    rw [hLS.out] at hbd hA
    rw [hN.out] at hbd
    obtain ⟨A1, cap1, F1, rfl, hO⟩ := hA.out.own
    rw [show List.length (α := (shL (shI .i64)).T) LS = N from hN.out] at hO ⊢
    obtain ⟨hN60, hall⟩ := hbd
    have HALL := Lib.hid hall
    have HO := Lib.hid hO
    have hF1 : Hid (∀ b ∈ F1, b < wr.heap.size) := Lib.hid fun b hb => hO.lt b hb
    have hzz := hB.size
    clear hO hall hA
    by_cases hlt : a < k
    · have hk8 : (a : Int) < (k : Int) := by omega
      have hne : Hid (lists4 n (a + 1) = lsRd n LS N) := Lib.hid (by rw [lists4, hLS.out, hN.out])
      obtain ⟨W0, rfl⟩ : ∃ x, x = wr := ⟨_, rfl⟩
      go_wp2_with fail
      go_loopw [7, 8] (fun o j wq => ∃ (b : Nat), b ≤ N ∧ j = .int .i64 b ∧ Hid (AppS (shL (shI .i64)) W0.heap.size 168 wq o (lsRd n LS b)) ∧ Below W0.heap.size W0 wq) (fun _ j _ => N - (intOf j).toNat)
      case atStart => exact ⟨0, Nat.zero_le _, rfl, Lib.hid (AppS.new _ (blknew _ _) (Nat.le_refl _)), belA⟩
      case round =>
        obtain ⟨b, hb, rfl, hA1, hB1⟩ := hrel
        have hz1 := hB1.size
        by_cases hlt2 : b < N
        · have hl8 : (b : Int) < (N : Int) := by omega
          obtain ⟨L, hL⟩ : ∃ L, Hid (LS[b]? = some L) := ⟨LS[b]'(by rw [hN.out]; exact hlt2), Lib.hid (List.getElem?_eq_getElem _)⟩
          have hLa : Hid (L.length = a) := Lib.hid (HALL.out L (List.mem_of_getElem? hL.out))
          go_wp2_with fail
          obtain ⟨W1, rfl⟩ : ∃ x, x = wr := ⟨_, rfl⟩
          go_loopw [7, 9] (fun o j wq => ∃ (v : Nat), v ≤ n ∧ j = .int .i64 v ∧ Hid (AppS (shL (shI .i64)) W0.heap.size 168 wq o (lsRd n LS b ++ lsIn L v)) ∧ Below W0.heap.size W0 wq) (fun _ j _ => n - (intOf j).toNat)
          case atStart => exact ⟨0, Nat.zero_le _, rfl, Lib.hid (by show AppS _ _ _ _ _ (lsRd n LS b ++ []); rw [List.append_nil]; exact hA1.out), hB1⟩
          case round =>
            obtain ⟨v, hv, rfl, hA2, hB2⟩ := hrel
            have hz2 := hB2.size
            obtain ⟨M2, hM2⟩ : ∃ M2, Hid (lsRd n LS b ++ lsIn L v = M2) := ⟨_, Lib.hid rfl⟩
            have hM2l : M2.length ≤ 400 := by
              rw [← hM2.out, List.length_append]
              have := lsRd_len n LS b
              have := lsIn_len L v
              have : b * n ≤ 60 * 5 := Nat.mul_le_mul (by omega) hn
              omega
            rw [hM2.out] at hA2
            have hLl : L.length ≤ 5 := by rw [hLa.out]; omega
            by_cases hlt3 : v < n
            · have hv8 : (v : Int) < (n : Int) := by omega
              obtain ⟨W2, rfl⟩ : ∃ x, x = wr := ⟨_, rfl⟩
              have hO2 := HO.out.below (Nat.le_refl _) hB2
              obtain ⟨g2, cap3, Fi, vi, hvv, c0, f0, hOi, _, _, _, _⟩ := own_rowI hO2 hL.out
              obtain ⟨rfl, hNl, rfl⟩ : A1 = some ⟨g2, 0, none⟩ ∧ N = LS.length ∧ cap1 = cap3 := by simpa using hvv
              have zg := World.block_lt_of_cell? _ _ c0
              simp only at zg
              have hcp : N ≤ cap1 ∧ cap1 ≤ maxLen := by
                obtain ⟨_, _, he, h1, h2, _⟩ := rep_slice hO2.lst
                injection he with _ e2 e3
                rw [← e2, ← e3] at h1
                exact ⟨h1, by rw [e3]; exact h2⟩
              obtain ⟨hcap, hmx⟩ := hcp
              unfold maxLen at hmx
              have HOI := Lib.hid hOi.lst
              clear hO2 hvv hOi hNl
              go_wp2_with fail
              refine Calls.mono (l00Has_any _ L _ v (HOI.out.below belA) (by omega)) ?_
              rintro e0 w3 ⟨rfl, hb3⟩
              have HB3 := Lib.hid (show Below W2.heap.size W2 w3 from Below.trans belA (hb3.mono (by first | omega | (simp <;> omega))))
              have c3 := bkeep HB3.out c0
              have hz3 := HB3.out.size
              clear hb3
              cases hmb : memB L (v : Int)
              · have hin : Hid (lsRd n LS b ++ lsIn L (v + 1) = M2 ++ [L ++ [(v : Int)]]) := Lib.hid (by rw [lsIn_succ, hmb, if_neg (by decide), ← hM2.out, List.append_assoc])
                clear hmb
                go_wp2_with fail
                refine Calls.mono (l00Own_any _ L _ (HOI.out.below (by have hb3 := HB3.out; exact belA)) (by omega)) ?_
                rintro e0 w4 ⟨u, rfl, hAI, hb4⟩
                obtain ⟨A', c', rfl, hc', hm'⟩ := formI hAI.lst
                have hW1 := Lib.hid (hAI.below (w' := w4.alloc (.cells #[.int .i64 v] 2)) (bal (Below.refl _ _) _))
                have HAI := Lib.hid hAI
                rw [hLa.out] at hc' ⊢
                have HB4 := Lib.hid hb4
                have hz4 := hb4.size
                clear hAI hb4
                go_wp2_with (first | (at_builtin; refine wpList_append_lies _ rfl (.tmp 41) (.tmp 43) 168 rfl w3.heap.size 2 i1 z1 1 8 Tryz.underlying168 I1.out Z1.out hs1 hb1 hl1 (by decide) (.slice A' a c') a _ rfl (by have h := hW1.out.1; rw [hLa.out] at h; exact h) ⟨w4.heap.size, 0, none⟩ 1 1 [.int .i64 v] rfl rfl (World.news_of_block (blknew _ _)) (by simp [Value.oneCell']) (by decide) (by unfold maxLen; omega) (by omega) (by simp; omega) _ rfl ?_; intro g3 cap4 w5 hown1 hgrow1 hat1 hlt1; have hN1 := hW1.out.next (okN (n := v) (by omega)) (by rw [hLa.out]; exact hown1); rw [hLa.out] at hN1; have hb5 := grown_below (B := w3.heap.size) hgrow1 (fun q hq => (HAI.out.ge q (by rw [hLa.out]; exact hq)).1) (by simp; omega); have HB5 := Lib.hid (show Below W2.heap.size W2 w5 from HB3.out.trans (((bal HB4.out _).trans hb5).mono hz3)); obtain ⟨Fx, hOx⟩ := hN1.own; have HOX := Lib.hid hOx; obtain ⟨LL, F, hW00⟩ := hA2.out; have hFb : Hid (∀ b ∈ F, b < W2.heap.size) := Lib.hid hW00.2.1.lt; have hW0 := hW00.move (w' := w5) (fun b h1 h2 => HB5.out.block b h2); have hW := Lib.hid (hW0.move (w' := w5.alloc (.cells #[.slice (some ⟨g3, 0, none⟩) (a + 1) cap4] 168)) (fun b _ hl => Below.heap_alloc w5 _ b hl)); have hz5 := HB5.out.size; clear hW0 hW00 hOx hN1 hb5 hown1 hgrow1 hat1) | (at_builtin; refine wpList_append_lies _ rfl (.tmp 36) (.tmp 45) 202 rfl W0.heap.size 168 i2 z2 1 24 Tryz.underlying202 I2.out Z2.out hs2 hb2 hl2 (by decide) _ M2.length LL rfl hW.out.1 ⟨w5.heap.size, 0, none⟩ 1 1 [.slice (some ⟨g3, 0, none⟩) (a + 1) cap4] rfl rfl (World.news_of_block (blknew _ _)) (by simp [Value.oneCell']) (by decide) (by unfold maxLen; omega) (by omega) (by simp; omega) _ rfl ?_; intro g6 cap6 w6 hown hgrow hat hlt6))
                go_roundw
                case rel =>
                  have hOw : (shL (shI .i64)).own (w5.alloc (.cells #[.slice (some ⟨g3, 0, none⟩) (a + 1) cap4] 168)) (L ++ [(v : Int)]) [.slice (some ⟨g3, 0, none⟩) (a + 1) cap4] Fx := (shL (shI .i64)).ownKeep _ _ _ _ _ (fun b hb => Below.heap_alloc w5 _ b (HOX.out.lt b hb)) HOX.out.1
                  have hAo := hA2.out.ge
                  have hFo := hFb.out
                  have hN := hW.out.next (s := shL (shI .i64)) (d := L ++ [(v : Int)]) hOw HOX.out.2.1 (fun b hb => by have := HOX.out.2.2 b hb; omega) (fun b hb hb2 => by have := HOX.out.2.2 b hb; have := hFo b hb2; omega) (fun q hq hb => by have := HOX.out.2.2 q hb; have := (hAo q hq).2; omega) hown hgrow hat
                  have hb1 : Below W0.heap.size W0 (w5.alloc (.cells #[.slice (some ⟨g3, 0, none⟩) (a + 1) cap4] 168)) := (hB2.trans (HB5.out.mono hz2)).alloc (by omega) _
                  have hb2 := grown_below (B := W0.heap.size) hgrow (fun q hq => (hAo q hq).1) (by simp; omega)
                  exact ⟨v + 1, by omega, by go_num, Lib.hid (by rw [hin.out]; exact hN), hb1.trans hb2⟩
                case measure => simp [intOf]; omega
              · have hin : Hid (lsRd n LS b ++ lsIn L (v + 1) = M2) := Lib.hid (by rw [lsIn_succ, hmb, if_pos rfl, List.append_nil, hM2.out])
                clear hmb
                go_wp2_with fail
                go_roundw
                case rel =>
                  exact ⟨v + 1, by omega, by go_num, Lib.hid (by rw [hin.out]; exact hA2.out.below HB3.out), hB2.trans (HB3.out.mono hz2)⟩
                case measure => simp [intOf]; omega
            · have e : v = n := by omega
              subst e
              have hin : Hid (lsRd v LS (b + 1) = M2) := Lib.hid (by rw [lsRd_succ hL.out, hM2.out])
              go_wp2_with fail
              go_roundw
              case rel =>
                exact ⟨b + 1, by omega, by go_num, Lib.hid (by rw [hin.out]; exact hA2.out), hB2⟩
              case measure => simp [intOf]; omega
        · have e : b = N := by omega
          subst e
          go_wp2_with fail
          go_roundw
          case rel => exact ⟨a + 1, by omega, by go_num, Lib.hid (by rw [hne.out]; exact hA1.out.low hzz), hB.trans (hB1.mono hzz)⟩
          case measure => simp [intOf]; omega
    · have e : a = k := by omega
      subst e
      go_wp2_with fail
      exact bodyPost_ret (v := .slice A1 N cap1) (by simp [results, Tryz.results157, go_sem]) rfl ⟨A1, cap1, F1, by rw [hLS.out, hN.out], by rw [hLS.out, hN.out]; exact HO.out, hB⟩
end Go.Proofs.YtekchdgpaemofaaGreat
