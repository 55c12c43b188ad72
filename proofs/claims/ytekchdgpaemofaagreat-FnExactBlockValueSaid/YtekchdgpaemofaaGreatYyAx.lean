import Derived.Deep.DeepCutAuto
import Derived.Test.YtekchdgpaemofaaGreatYyAw
import Derived.Test.YtekchdgpaemofaaGreatYyDu
namespace Go.Proofs.YtekchdgpaemofaaGreat
open Go.ChangeShapes Go.WideShapes Go.RowKit
set_option linter.unusedVariables false
set_option linter.unusedSimpArgs false
attribute [local irreducible] Calls
set_option maxHeartbeats 1000000 in
theorem sflagOf_any (w : World) (n : Nat) (e : Int) (L : List Int) (v : Value) (h : Lst (shI .i64) w L v) (hn : n ≤ 5) (hl : L.length ≤ 5) (hV : VL (L ++ rstI L n)) :
    Calls Tryz.prog 159 #[.agg #[.int .i64 n, .int .u32 e], v] w fun r w' => r = .returned (.agg #[.int .i64 L.length, .int .i64 (L ++ rstI L n).length, .int .u32 (onE e (L ++ rstI L n))]) ∧ Below w.heap.size w w' := by
  obtain ⟨i1, z1, hi1, hz1, hs1, hb1, hl1⟩ := infoB_spec (P := Tryz.prog) (e := 2) (sz := 1) (bytes := 8) (by kernel_rfl)
  have I1 := Lib.hid hi1
  have Z1 := Lib.hid hz1
  have HV := Lib.hid h
  have HL := Lib.hid hV
  obtain ⟨A, cap, rfl, hc, hm, hel⟩ := lstI h
  obtain ⟨q, hq, hq5⟩ : ∃ q, Hid (L.length = q) ∧ q ≤ 5 := ⟨_, Lib.hid rfl, hl⟩
  have HEL := Lib.hid hel
  clear hi1 hz1 hel h hV
  go_enter Tryz.func159, Tryz.ntmps159
  go_upto_region 1 with fail
  go_cut [5] (fun s5 wx => Hid (AppI (w.heap.size + 1 + 1) wx s5 L) ∧ Below w.heap.size w wx ∧ wx.heap[w.heap.size]? = some (.cells #[.int .i64 n, .int .u32 e] 28 (0, 0)) ∧ wx.heap[w.heap.size + 1]? = some (.cells #[.int .i64 0, .int .i64 0, .int .u32 0] 104 (0, 0)))
  case first =>
    have hel := HEL.out
    rcases Nat.eq_zero_or_pos L.length with h0 | hp
    · have hx : L = [] := List.length_eq_zero_iff.1 h0
      subst hx
      clear hel
      cases A
      · go_wp2_with fail
        go_meet
        exact ⟨Lib.hid (AppI.new blkA (Nat.le_refl _)), belA, blkA, blkA⟩
      · go_wp2_with fail
        go_meet
        exact ⟨Lib.hid (AppI.new blkA (Nat.le_refl _)), belA, blkA, blkA⟩
    · obtain ⟨b, o, rfl, _⟩ := hel hp
      have hok : Hid (∀ d ∈ L, okI .i64 d) := Lib.hid (oks_of (flat_int .i64) HV.out)
      clear hel
      go_wp2_with (at_builtin; refine wpList_append_lies _ rfl (.tmp 7) (.tmp 8) 168 rfl (w.heap.size + 1 + 1) 2 i1 z1 1 8 Tryz.underlying168 I1.out Z1.out hs1 hb1 hl1 (by decide) (.slice (some ⟨w.heap.size + 1 + 1, 0, none⟩) 0 0) 0 [] rfl (AppI.new blkA (Nat.le_refl _)).1 ⟨b, o, none⟩ L.length cap (L.map fun d => .int .i64 d) rfl (by simp) (seq_news (HV.out.below belA)) (by simp [Value.oneCell']) hp (by unfold maxLen; omega) (by omega) (by simp) _ rfl ?_; intro g1 cap2 w2 hown hgrow hat hlt3)
      have hb2 := grown_below (B := w.heap.size + 1 + 1) hgrow (fun q hq => by have : w.heap.size + 1 + 1 = q := (by simpa [Value.ownBlock] using hq); omega) (by simp)
      rw [Nat.zero_add, List.nil_append] at hown
      go_meet
      exact ⟨Lib.hid ⟨hown, hok.out⟩, Below.trans (by exact belA) (hb2.mono (by omega)), bblk hb2 (by omega) blkA, bblk hb2 (by omega) blkA⟩
  case rest =>
  obtain ⟨HA, hbl, k0, k1⟩ := hcut
  obtain ⟨w1, rfl⟩ : ∃ z, z = wc := ⟨_, rfl⟩
  have HB1 := Lib.hid hbl
  have K0 := Lib.hid k0
  have K1 := Lib.hid k1
  obtain ⟨r0, r1, _, _⟩ := blk2 k0
  have y1 := blklt k1
  clear hbl k0 k1
  go_wp2_with fail
  go_loopw [5, 6] (fun o i wr => ∃ (k : Nat), k ≤ n ∧ i = .int .i64 k ∧ Hid (AppI (w.heap.size + 1 + 1) wr o (L ++ rstI L k)) ∧ Hid (wr.heap[w.heap.size]? = some (.cells #[.int .i64 n, .int .u32 e] 28 (0, 0))) ∧ Hid (wr.heap[w.heap.size + 1]? = some (.cells #[.int .i64 0, .int .i64 0, .int .u32 0] 104 (0, 0))) ∧ Below w.heap.size w wr) (fun _ i _ => n - (intOf i).toNat)
  case atStart =>
    have hb1 := HB1.out
    exact ⟨0, Nat.zero_le _, rfl, Lib.hid (by show AppI _ _ _ (L ++ []); rw [List.append_nil]; exact HA.out.below belA), Lib.hid (by have k0 := K0.out; exact blkA), Lib.hid (by have k1 := K1.out; exact blkA), belA⟩
  case round =>
    obtain ⟨k, hk, rfl, hA, hk0, hk1, hB⟩ := hrel
    have hz := blklt hk1.out
    by_cases hlt : k < n
    · have hk8 : (k : Int) < (n : Int) := by omega
      have hlen : (L ++ rstI L k).length ≤ 20 := by have := rstI_len L k; rw [List.length_append]; omega
      obtain ⟨W0, rfl⟩ : ∃ z, z = wr := ⟨_, rfl⟩
      have HVW := Lib.hid (HV.out.below hB)
      obtain ⟨M, hM⟩ : ∃ M, Hid (L ++ rstI L k = M) := ⟨_, Lib.hid rfl⟩
      rw [hM.out] at hA hlen
      obtain ⟨A', c', rfl, hc', hm'⟩ := formI hA.out.lst
      obtain ⟨s0, s1, _, _⟩ := blk2 hk0.out
      go_wp2_with fail
      refine Calls.mono (l01Among_any _ L _ k (HVW.out.below belA) (by omega)) ?_
      rintro e0 w3 ⟨rfl, hb⟩
      have HB3 := Lib.hid (show Below W0.heap.size W0 w3 from Below.trans belA (hb.mono (by first | omega | (simp <;> omega))))
      have hz3 := HB3.out.size
      clear hb
      cases hmb : memB L (k : Int)
      · have hL1 : L ++ rstI L (k + 1) = M ++ [(k : Int)] := by rw [rstI_succ, hmb, if_neg (by decide), ← hM.out, List.append_assoc]
        have HL1 := Lib.hid hL1
        have hW := Lib.hid ((hA.out.below HB3.out).below (w' := w3.alloc (.cells #[.int .i64 k] 2)) (bal (Below.refl _ _) _))
        clear hL1 hmb
        go_wp2_with (at_builtin; refine wpList_append_lies _ rfl (.tmp 20) (.tmp 22) 168 rfl (w.heap.size + 1 + 1) 2 i1 z1 1 8 Tryz.underlying168 I1.out Z1.out hs1 hb1 hl1 (by decide) (.slice A' M.length c') M.length _ rfl hW.out.1 ⟨w3.heap.size, 0, none⟩ 1 1 [.int .i64 k] rfl rfl (World.news_of_block (blknew _ _)) (by simp [Value.oneCell']) (by decide) (by unfold maxLen; omega) (by omega) (by simp; omega) _ rfl ?_; intro g1 cap1 w4 hown hgrow hat hlt3)
        go_roundw
        case rel =>
          have hN := hW.out.next (okN (n := k) (by omega)) hown
          have hAo := hA.out.ge
          have hb2 := grown_below (B := w.heap.size + 1 + 1) hgrow (fun q hq => (hAo q hq).1) (by simp; omega)
          have hk0' := hk0.out
          have hk1' := hk1.out
          exact ⟨k + 1, by omega, by go_num, Lib.hid (by rw [HL1.out]; exact hN), Lib.hid (bblk hb2 (by omega) (blkal (bblk HB3.out (blklt hk0') hk0') _)), Lib.hid (bblk hb2 (by omega) (blkal (bblk HB3.out (blklt hk1') hk1') _)), (hB.trans ((bal HB3.out _).mono hB.size)).trans (hb2.mono (by omega))⟩
        case measure => simp [intOf]; omega
      · have hL1 : L ++ rstI L (k + 1) = M := by rw [rstI_succ, hmb, if_pos rfl, List.append_nil, ← hM.out]
        have HL1 := Lib.hid hL1
        clear hL1 hmb
        go_wp2_with fail
        go_roundw
        case rel =>
          have hk0' := hk0.out
          have hk1' := hk1.out
          exact ⟨k + 1, by omega, by go_num, Lib.hid (by rw [HL1.out]; exact hA.out.below HB3.out), Lib.hid (bblk HB3.out (blklt hk0') hk0'), Lib.hid (bblk HB3.out (blklt hk1') hk1'), hB.trans (HB3.out.mono (by omega))⟩
        case measure => simp [intOf]; omega
    · have ee : k = n := by omega
      subst ee
      obtain ⟨M, hM⟩ : ∃ M, Hid (L ++ rstI L k = M) := ⟨_, Lib.hid rfl⟩
      rw [hM.out] at hA HL
      obtain ⟨A', c', rfl, hc', hm'⟩ := formI hA.out.lst
      have HA2 := Lib.hid hA.out.lst
      have HV2 := Lib.hid (HV.out.below hB)
      obtain ⟨s0, s1, _, _⟩ := blk2 hk0.out
      have K12 := Lib.hid hk1.out
      go_wp2_with fail
      refine Calls.mono (l01On_any _ k e M _ HA2.out HL.out) ?_
      rintro e0 w5 ⟨rfl, hb⟩
      have k1 := bblk hb (blklt K12.out) K12.out
      have y5 := blklt k1
      obtain ⟨c0, c1, c2, f0, f1, f2⟩ := blk3 k1
      have HB5 := Lib.hid (hB.trans (hb.mono hB.size))
      obtain ⟨q5, hq5⟩ : ∃ q, Hid (M.length = q) := ⟨_, Lib.hid rfl⟩
      obtain ⟨p5, hp5⟩ : ∃ q, Hid (L.length = q) := ⟨_, Lib.hid rfl⟩
      obtain ⟨E5, hE5⟩ : ∃ q, Hid (onE e M = q) := ⟨_, Lib.hid rfl⟩
      rw [hq5.out, hp5.out, hE5.out]
      clear hb k1
      have hb5 := HB5.out
      clear hc' hm' hc hm
      go_wp2_with fail
      exact bodyPost_ret (v := .agg #[.int .i64 p5, .int .i64 q5, .int .u32 E5]) (by simp [results, Tryz.results159, go_sem, *]) rfl ⟨by rw [hM.out, hq5.out, hp5.out, hE5.out], belA⟩
end Go.Proofs.YtekchdgpaemofaaGreat
