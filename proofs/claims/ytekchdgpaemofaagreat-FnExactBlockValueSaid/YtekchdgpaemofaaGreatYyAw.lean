import Derived.Test.YtekchdgpaemofaaGreatYyDn
namespace Go.Proofs.YtekchdgpaemofaaGreat
open Go.ChangeShapes Go.WideShapes Go.RowKit
set_option linter.unusedVariables false
set_option linter.unusedSimpArgs false
attribute [local irreducible] Calls
def lisI (n : Int) : Nat → Int
  | 0 => 1
  | i + 1 => lisI n i * (n - i)
theorem lisI_bd (n i : Nat) (hn : n ≤ 5) (hi : i ≤ 5) : 0 ≤ lisI n i ∧ lisI n i ≤ 120 := by
  have h : ∀ n ≤ 5, ∀ i ≤ 5, 0 ≤ lisI ((n : Nat) : Int) i ∧ lisI ((n : Nat) : Int) i ≤ 120 := by decide
  exact h n hn i hi
theorem lists_any (w : World) (n k : Nat) (hn : n ≤ 5) (hk : k ≤ n) : Calls Tryz.prog 249 #[.int .i64 n, .int .i64 k] w fun r w' => r = .returned (.int .i64 (lisI n k)) ∧ Below w.heap.size w w' := by
  go_enter Tryz.func249, Tryz.ntmps249
  go_wp2_with fail
  go_loopw [5, 8] (fun o i wr => ∃ (j : Nat), j ≤ k ∧ i = .int .i64 j ∧ o = .int .i64 (lisI n j) ∧ Below w.heap.size w wr) (fun _ i _ => k - (intOf i).toNat)
  case atStart => exact ⟨0, Nat.zero_le _, rfl, rfl, belA⟩
  case round =>
    obtain ⟨j, hj, rfl, rfl, hB⟩ := hrel
    by_cases hlt : j < k
    · have hk8 : (j : Int) < (k : Int) := by omega
      obtain ⟨c1, c2⟩ := lisI_bd n j hn (by omega)
      obtain ⟨C, hC⟩ : ∃ C, lisI n j = C := ⟨_, rfl⟩
      obtain ⟨D, hD⟩ : ∃ D, Hid (lisI n (j + 1) = D) := ⟨_, Lib.hid rfl⟩
      rw [hC] at c1 c2 ⊢
      have hm : 0 ≤ C * ((n : Int) - j) ∧ C * ((n : Int) - j) ≤ 600 := by
        have e1 : 0 ≤ (n : Int) - j ∧ (n : Int) - j ≤ 5 := by omega
        refine ⟨Int.mul_nonneg c1 e1.1, ?_⟩
        have := Int.mul_le_mul c2 e1.2 e1.1 (by omega)
        omega
      obtain ⟨m1, m2⟩ := hm
      go_wp2_with fail
      go_roundw
      case rel =>
        refine ⟨j + 1, by omega, by go_num, ?_, belA⟩
        rw [lisI, hC]
      case measure => simp [intOf]; omega
    · have e : j = k := by omega
      subst e
      go_wp2_with fail
      exact bodyPost_ret (v := .int .i64 (lisI n j)) (by simp [results, Tryz.results249, go_sem]) rfl ⟨rfl, belA⟩
@[go_sem high] theorem nilI_t (n c n' c' : Nat) (w : World) : (binOp .eql 168 (.slice none n c) (.slice none n' c')).run Tryz.prog w = .ok (.bool true) w :=
  Lib.run_eql_slice_nil w _ 2 none n c n' c' Tryz.underlying168
@[go_sem high] theorem nilI_f (p : Addr) (n c n' c' : Nat) (w : World) : (binOp .eql 168 (.slice (some p) n c) (.slice none n' c')).run Tryz.prog w = .ok (.bool false) w :=
  Lib.run_eql_slice_nil w _ 2 (some p) n c n' c' Tryz.underlying168
theorem AppI.none {B : Nat} {w : World} : AppI B w (.slice none 0 0) [] := ⟨⟨rfl, .inl ⟨rfl, rfl⟩⟩, fun d hd => by cases hd⟩
theorem cloneI_any (w : World) (L : List Int) (v : Value) (h : Lst (shI .i64) w L v) (hl : L.length ≤ 50) :
    Calls Tryz.prog 278 #[v] w fun e w' => ∃ u, e = .returned u ∧ AppI w.heap.size w' u L ∧ Below w.heap.size w w' := by
  obtain ⟨i1, z1, hi1, hz1, hs1, hb1, hl1⟩ := infoB_spec (P := Tryz.prog) (e := 2) (sz := 1) (bytes := 8) (by kernel_rfl)
  have I1 := Lib.hid hi1
  have Z1 := Lib.hid hz1
  clear hi1 hz1
  obtain ⟨A, cap, rfl, hc, hm, hel⟩ := lstI h
  rcases Nat.eq_zero_or_pos L.length with h0 | hp
  · have hx : L = [] := List.length_eq_zero_iff.1 h0
    subst hx
    clear hel h
    cases A
    · go_enter Tryz.func278, Tryz.ntmps278
      go_wp2_with fail
      exact bodyPost_ret (v := .slice none 0 0) (by simp [results, Tryz.results278, go_sem]) rfl ⟨_, rfl, AppI.none, belA⟩
    · go_enter Tryz.func278, Tryz.ntmps278
      go_wp2_with fail
      exact bodyPost_ret (v := .slice (some ⟨_, 0, none⟩) 0 0) (by simp [results, Tryz.results278, go_sem] <;> rfl) rfl ⟨_, rfl, AppI.new (blknew _ _) (Nat.le_refl _), belA⟩
  · obtain ⟨b, o, rfl, _⟩ := hel hp
    have hok : Hid (∀ d ∈ L, okI .i64 d) := Lib.hid (oks_of (flat_int .i64) h)
    have hB : Below w.heap.size w (w.alloc (.cells #[] 2)) := belA
    have HN := Lib.hid (seq_news (h.below hB))
    have HO : Hid (AppI w.heap.size (w.alloc (.cells #[] 2)) (.slice (some ⟨w.heap.size, 0, none⟩) 0 0) []) := Lib.hid (AppI.new (blknew _ _) (Nat.le_refl _))
    have HB := Lib.hid hB
    clear hel h hB
    go_enter Tryz.func278, Tryz.ntmps278
    go_wp2_with (at_builtin; refine wpList_append_lies _ rfl (.tmp 5) (.tmp 6) 168 rfl w.heap.size 2 i1 z1 1 8 Tryz.underlying168 I1.out Z1.out hs1 hb1 hl1 (by decide) _ 0 [] rfl HO.out.1 ⟨b, o, none⟩ L.length cap (L.map fun d => .int .i64 d) rfl (by simp) HN.out (by simp [Value.oneCell']) hp (by unfold maxLen; omega) (by omega) (by simp) _ rfl ?_; intro g1 cap2 w2 hown hgrow hat hlt3)
    have hb2 := grown_below (B := w.heap.size) hgrow (fun q hq => (HO.out.ge q hq).1) (by simp)
    rw [Nat.zero_add, List.nil_append] at hown
    exact bodyPost_ret (v := .slice (some ⟨g1, 0, none⟩) L.length cap2) (by simp [results, Tryz.results278, go_sem]) rfl ⟨_, rfl, ⟨hown, hok.out⟩, HB.out.trans hb2⟩
def rstI (L : List Int) (n : Nat) : List Int := (seqI n).filter fun d => !memB L d
theorem rstI_succ (L : List Int) (n : Nat) : rstI L (n + 1) = rstI L n ++ (if memB L (n : Int) then [] else [(n : Int)]) := by
  unfold rstI
  rw [seqI_succ, List.filter_append]
  congr 1
  cases h : memB L (n : Int) <;> simp [h]
theorem rstI_len (L : List Int) (n : Nat) : (rstI L n).length ≤ n := by
  have := List.length_filter_le (fun d => !memB L d) (seqI n)
  rw [seqI_len] at this
  exact this
set_option maxHeartbeats 1000000 in
theorem flagOf_any (w : World) (n : Nat) (e : Int) (L : List Int) (v : Value) (h : Lst (shI .i64) w L v) (hn : n ≤ 5) (hl : L.length ≤ 5) (hV : VL (L ++ rstI L n)) :
    Calls Tryz.prog 247 #[.agg #[.int .i64 n, .int .u32 e], v] w fun r w' => r = .returned (.agg #[.int .i64 L.length, .int .i64 (L ++ rstI L n).length, .int .u32 (onE e (L ++ rstI L n))]) ∧ Below w.heap.size w w' := by
  obtain ⟨i1, z1, hi1, hz1, hs1, hb1, hl1⟩ := infoB_spec (P := Tryz.prog) (e := 2) (sz := 1) (bytes := 8) (by kernel_rfl)
  have I1 := Lib.hid hi1
  have Z1 := Lib.hid hz1
  have HV := Lib.hid h
  have HL := Lib.hid hV
  obtain ⟨A, cap, rfl, hc, hm, hel⟩ := lstI h
  obtain ⟨q, hq, hq5⟩ : ∃ q, Hid (L.length = q) ∧ q ≤ 5 := ⟨_, Lib.hid rfl, hl⟩
  clear hi1 hz1 hel h hV
  go_enter Tryz.func247, Tryz.ntmps247
  go_wp2_with fail
  refine Calls.mono (cloneI_any _ L _ (HV.out.below belA) (by omega)) ?_
  rintro e0 w1 ⟨u, rfl, hA, hb⟩
  have hbl : Below w.heap.size w w1 := Below.trans belA (hb.mono (by simp <;> omega))
  have k0 : w1.heap[w.heap.size]? = some (.cells #[.int .i64 n, .int .u32 e] 28 (0, 0)) := bblk hb (by simp <;> omega) blkA
  have k1 : w1.heap[w.heap.size + 1]? = some (.cells #[.int .i64 0, .int .i64 0, .int .u32 0] 104 (0, 0)) := bblk hb (by simp <;> omega) blkA
  have HA : Hid (AppI (w.heap.size + 1 + 1) w1 u L) := Lib.hid (by simpa using hA)
  have HB1 := Lib.hid hbl
  have K0 := Lib.hid k0
  have K1 := Lib.hid k1
  obtain ⟨r0, r1, _, _⟩ := blk2 k0
  have y1 := blklt k1
  clear hb hA hbl k0 k1
  go_wp2_with fail
  go_loopw [5, 11] (fun o i wr => ∃ (k : Nat), k ≤ n ∧ i = .int .i64 k ∧ Hid (AppI (w.heap.size + 1 + 1) wr o (L ++ rstI L k)) ∧ Hid (wr.heap[w.heap.size]? = some (.cells #[.int .i64 n, .int .u32 e] 28 (0, 0))) ∧ Hid (wr.heap[w.heap.size + 1]? = some (.cells #[.int .i64 0, .int .i64 0, .int .u32 0] 104 (0, 0))) ∧ Below w.heap.size w wr) (fun _ i _ => n - (intOf i).toNat)
  case atStart =>
    have hb1 := HB1.out
    exact ⟨0, Nat.zero_le _, rfl, Lib.hid (by show AppI _ _ _ (L ++ []); rw [List.append_nil]; exact HA.out.below belA), Lib.hid (by have k0 := K0.out; exact blkA), Lib.hid (by have k1 := K1.out; exact blkA), belA⟩
  case round =>
    obtain ⟨k, hk, rfl, hA, hk0, hk1, hB⟩ := hrel
    have hz := blklt hk1.out
    by_cases hlt : k < n
    · have hk8 : (k : Int) < (n : Int) := by omega
      have hlen : (L ++ rstI L k).length ≤ 20 := by have := rstI_len L k; rw [List.length_append]; omega
      obtain ⟨W0, rfl⟩ : ∃ z, z = wr := ⟨_, rfl⟩
      have HVW := Lib.hid (HV.out.below hB)
      obtain ⟨M, hM⟩ : ∃ M, Hid (L ++ rstI L k = M) := ⟨_, Lib.hid rfl⟩
      rw [hM.out] at hA hlen
      obtain ⟨A', c', rfl, hc', hm'⟩ := formI hA.out.lst
      obtain ⟨s0, s1, _, _⟩ := blk2 hk0.out
      go_wp2_with fail
      refine Calls.mono (hasI_any _ L _ k (HVW.out.below belA) (by omega)) ?_
      rintro e0 w3 ⟨rfl, hb⟩
      have HB3 := Lib.hid (show Below W0.heap.size W0 w3 from Below.trans belA (hb.mono (by first | omega | (simp <;> omega))))
      have hz3 := HB3.out.size
      clear hb
      cases hmb : memB L (k : Int)
      · have hL1 : L ++ rstI L (k + 1) = M ++ [(k : Int)] := by rw [rstI_succ, hmb, if_neg (by decide), ← hM.out, List.append_assoc]
        have HL1 := Lib.hid hL1
        have hW := Lib.hid ((hA.out.below HB3.out).below (w' := w3.alloc (.cells #[.int .i64 k] 2)) (bal (Below.refl _ _) _))
        clear hL1 hmb
        go_wp2_with (at_builtin; refine wpList_append_lies _ rfl (.tmp 18) (.tmp 20) 168 rfl (w.heap.size + 1 + 1) 2 i1 z1 1 8 Tryz.underlying168 I1.out Z1.out hs1 hb1 hl1 (by decide) (.slice A' M.length c') M.length _ rfl hW.out.1 ⟨w3.heap.size, 0, none⟩ 1 1 [.int .i64 k] rfl rfl (World.news_of_block (blknew _ _)) (by simp [Value.oneCell']) (by decide) (by unfold maxLen; omega) (by omega) (by simp; omega) _ rfl ?_; intro g1 cap1 w4 hown hgrow hat hlt3)
        go_roundw
        case rel =>
          have hN := hW.out.next (okN (n := k) (by omega)) hown
          have hAo := hA.out.ge
          have hb2 := grown_below (B := w.heap.size + 1 + 1) hgrow (fun q hq => (hAo q hq).1) (by simp; omega)
          have hk0' := hk0.out
          have hk1' := hk1.out
          exact ⟨k + 1, by omega, by go_num, Lib.hid (by rw [HL1.out]; exact hN), Lib.hid (bblk hb2 (by omega) (blkal (bblk HB3.out (blklt hk0') hk0') _)), Lib.hid (bblk hb2 (by omega) (blkal (bblk HB3.out (blklt hk1') hk1') _)), (hB.trans ((bal HB3.out _).mono hB.size)).trans (hb2.mono (by omega))⟩
        case measure => simp [intOf]; omega
      · have hL1 : L ++ rstI L (k + 1) = M := by rw [rstI_succ, hmb, if_pos rfl, List.append_nil, ← hM.out]
        have HL1 := Lib.hid hL1
        clear hL1 hmb
        go_wp2_with fail
        go_roundw
        case rel =>
          have hk0' := hk0.out
          have hk1' := hk1.out
          exact ⟨k + 1, by omega, by go_num, Lib.hid (by rw [HL1.out]; exact hA.out.below HB3.out), Lib.hid (bblk HB3.out (blklt hk0') hk0'), Lib.hid (bblk HB3.out (blklt hk1') hk1'), hB.trans (HB3.out.mono (by omega))⟩
        case measure => simp [intOf]; omega
    · have ee : k = n := by omega
      subst ee
      obtain ⟨M, hM⟩ : ∃ M, Hid (L ++ rstI L k = M) := ⟨_, Lib.hid rfl⟩
      rw [hM.out] at hA HL
      obtain ⟨A', c', rfl, hc', hm'⟩ := formI hA.out.lst
      have HA2 := Lib.hid hA.out.lst
      have HV2 := Lib.hid (HV.out.below hB)
      obtain ⟨s0, s1, _, _⟩ := blk2 hk0.out
      have K12 := Lib.hid hk1.out
      go_wp2_with fail
      refine Calls.mono (on_any _ k e M _ HA2.out HL.out) ?_
      rintro e0 w5 ⟨rfl, hb⟩
      have k1 := bblk hb (blklt K12.out) K12.out
      have y5 := blklt k1
      obtain ⟨c0, c1, c2, f0, f1, f2⟩ := blk3 k1
      have HB5 := Lib.hid (hB.trans (hb.mono hB.size))
      obtain ⟨q5, hq5⟩ : ∃ q, Hid (M.length = q) := ⟨_, Lib.hid rfl⟩
      obtain ⟨p5, hp5⟩ : ∃ q, Hid (L.length = q) := ⟨_, Lib.hid rfl⟩
      obtain ⟨E5, hE5⟩ : ∃ q, Hid (onE e M = q) := ⟨_, Lib.hid rfl⟩
      rw [hq5.out, hp5.out, hE5.out]
      clear hb k1
      have hb5 := HB5.out
      clear hc' hm' hc hm
      go_wp2_with fail
      exact bodyPost_ret (v := .agg #[.int .i64 p5, .int .i64 q5, .int .u32 E5]) (by simp [results, Tryz.results247, go_sem, *]) rfl ⟨by rw [hM.out, hq5.out, hp5.out, hE5.out], belA⟩
end Go.Proofs.YtekchdgpaemofaaGreat
