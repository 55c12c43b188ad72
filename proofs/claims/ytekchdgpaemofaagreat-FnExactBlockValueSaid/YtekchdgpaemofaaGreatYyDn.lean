import Derived.Deep.Upon
import Derived.Test.YtekchdgpaemofaaGreatYyCh
import Derived.Test.YtekchdgpaemofaaGreatYyVq
namespace Go.Proofs.YtekchdgpaemofaaGreat
open Go.ChangeShapes Go.WideShapes Go.RowKit
set_option linter.unusedVariables false
set_option linter.unusedSimpArgs false
attribute [local irreducible] Calls
theorem seq_news {w : World} {M : List Int} {b o n c : Nat} (h : Lst (shI .i64) w M (.slice (some ⟨b, o, none⟩) n c)) : ∀ j u, (M.map fun d => Value.int .i64 d)[j]? = some u → w.cell? ((⟨b, o, none⟩ : Addr).add j) = some u := by
  intro j u hu
  rw [List.getElem?_map] at hu
  have hj : j < M.length := by
    rcases Nat.lt_or_ge j M.length with h | h
    · exact h
    · rw [List.getElem?_eq_none h] at hu; cases hu
  have hadd : (⟨b, o, none⟩ : Addr).add j = ⟨b, o + j, none⟩ := by unfold Addr.add; split <;> simp_all
  rw [hadd, lst_cell h hj]
  rw [List.getElem?_eq_getElem hj] at hu
  simp at hu
  rw [← hu]
  simp [gi, List.getElem?_eq_getElem hj]
theorem append_ints (w : World) {B : Nat} {v u : Value} {L M : List Int} (hA : AppI B w v L) (hM : Lst (shI .i64) w M u) (hl : L.length + M.length ≤ 100) (hB : B ≤ w.heap.size) (ty : TypeId) :
    ∃ v' w', (Builtin.append_ #[168, 168] ty #[v, u]).run Tryz.prog w = .ok v' w' ∧ AppI B w' v' (L ++ M) ∧ Below B w w' := by
  obtain ⟨i1, zv1, hi1, hz1, hs1, hb1, hl1⟩ := infoB_spec (P := Tryz.prog) (e := 2) (sz := 1) (bytes := 8) (by kernel_rfl)
  obtain ⟨Am, cm, rfl, hcm, hmm, helm⟩ := lstI hM
  obtain ⟨Al, cl, hv, hcl, hml, _⟩ := lstI hA.lst
  subst hv
  rcases Nat.eq_zero_or_pos M.length with h0 | hp
  · have hM0 : M = [] := List.length_eq_zero_iff.1 h0
    subst hM0
    refine ⟨_, w, run_append_nothing (P := Tryz.prog) w _ _ ty 2 i1 Tryz.underlying168 hi1 Al L.length cl hcl _ ?_, by rw [List.append_nil]; exact hA, Below.refl _ _⟩
    cases Am
    · exact Src.ofNil _ Tryz.underlying168 _
    · exact Src.ofSlice _ Tryz.underlying168 _ 0 cm [] (by simp) (by simp) (by simp)
  · obtain ⟨b, o, rfl, hel⟩ := helm hp
    obtain ⟨g, cap, w', hr, h2, h3, h4, h5⟩ := run_append_lies (P := Tryz.prog) w 168 ty B 2 i1 zv1 1 8 Tryz.underlying168 hi1 hz1 hs1 hb1 hl1 (by decide) (.slice Al L.length cl) L.length (L.map fun d => .int .i64 d) hA.1 ⟨b, o, none⟩ M.length cm (M.map fun d => .int .i64 d) (by simp) (seq_news hM) (by simp [Value.oneCell']) hp (by unfold maxLen; omega) (by omega) hB _ rfl
    refine ⟨_, w', hr, ⟨by rw [List.map_append, List.length_append]; exact h2, fun d hd => ?_⟩, grown_below (B := B) h3 (fun q hq => (hA.ge q hq).1) hB⟩
    rcases List.mem_append.1 hd with hd | hd
    · exact hA.2 d hd
    · exact oks_of (flat_int .i64) hM d hd
theorem wp_append_ints (w : World) {B : Nat} {v u : Value} {L M : List Int} (hA : AppI B w v L) (hM : Lst (shI .i64) w M u) (hl : L.length + M.length ≤ 100) (hB : B ≤ w.heap.size) {o : Oper} {a : Act} {K : Act → World → Prop} {Q : Exit → Act → World → Prop} (s x : Operand)
    (ho : o.op = .call { callee := .builtin .append, args := #[s, x], argTypes := #[168, 168] }) (hs : a.eval s = v) (hx : a.eval x = u)
    (h : ∀ v' w', AppI B w' v' (L ++ M) → Below B w w' → K (a.put o.dst v') w') : o.wp Tryz.prog a w K Q := by
  obtain ⟨v', w', hr, h2, h3⟩ := append_ints w hA hM hl hB o.type
  unfold Oper.wp execOp
  simp only [ho, resolve, invoke, builtin, Sem.run_bind, Sem.run_pure, Result.andThen_ok, List.map_toArray, List.map_cons, List.map_nil, hs, hx, hr]
  exact h v' w' h2 h3
theorem ffree_any (w : World) (d : Flg) (h0 : 0 ≤ d.1 ∧ d.1 ≤ 5) (h1 : 0 ≤ d.2.1 ∧ d.2.1 ≤ 5) : Calls Tryz.prog 162 #[.agg #[.int .i64 d.1, .int .i64 d.2.1, .int .u32 d.2.2]] w fun e w' => e = .returned (.int .i64 (d.2.1 - d.1)) ∧ Below w.heap.size w w' := by
  go_enter Tryz.func162, Tryz.ntmps162
  go_wp2_with fail
  exact bodyPost_ret (v := .int .i64 (d.2.1 - d.1)) (by simp [results, Tryz.results162, go_sem]) rfl ⟨rfl, belA⟩
def othI (k n : Nat) : List Int := (seqI n).drop k
theorem othI_len (k n : Nat) : (othI k n).length = n - k := by simp [othI, seqI_len]
theorem lst_drop {w : World} {L : List Int} {g o n c k : Nat} (h : Lst (shI .i64) w L (.slice (some ⟨g, o, none⟩) n c)) (hn : n = L.length) (hk : k ≤ n) : Lst (shI .i64) w (L.drop k) (.slice (some ⟨g, o + k, none⟩) (n - k) (c - k)) := by
  subst hn
  obtain ⟨A, c', e, hc, hm, hel⟩ := rep_slice h
  injection e with e1 e2 e3
  subst e3
  refine ⟨_, _, by rw [List.length_drop], by rw [List.length_drop]; omega, by omega, fun hp => ⟨g, o + k, rfl, fun i d hi => ?_⟩⟩
  rw [List.getElem?_drop] at hi
  have hlt : k + i < L.length := (List.getElem?_eq_some_iff.1 hi).1
  obtain ⟨bl, off, e4, hel⟩ := hel (by omega)
  rw [← e1] at e4
  injection e4 with e4
  injection e4 with e4 e5
  subst e4; subst e5
  obtain ⟨ec, h1, h2⟩ := hel (k + i) d hi
  refine ⟨ec, h1, fun j hj => ?_⟩
  have hj0 : j = 0 := by have : j < 1 := hj; omega
  subst hj0
  have := h2 0 hj
  rw [← this]
  congr 2
  show o + k + (i * 1 + 0) = o + ((k + i) * 1 + 0)
  omega
theorem first_some (w : World) (n : Nat) (hn : n ≤ 100) : Calls Tryz.prog 141 #[.int .i64 n] w fun e w' => ∃ g c, e = .returned (.slice (some ⟨g, 0, none⟩) n c) ∧ w.heap.size ≤ g ∧ n ≤ c ∧ c ≤ maxLen ∧ AppI w.heap.size w' (.slice (some ⟨g, 0, none⟩) n c) (seqI n) ∧ Below w.heap.size w w' := by
  obtain ⟨i1, z1, hi1, hz1, hs1, hb1, hl1⟩ := infoB_spec (P := Tryz.prog) (e := 2) (sz := 1) (bytes := 8) (by kernel_rfl)
  have I1 := Lib.hid hi1
  have Z1 := Lib.hid hz1
  clear hi1 hz1
  go_enter Tryz.func141, Tryz.ntmps141
  go_wp2_with fail
  go_loopw [3, 7] (fun o i wr => ∃ (k : Nat), k ≤ n ∧ i = .int .i64 k ∧ (∃ g c, o = .slice (some ⟨g, 0, none⟩) k c ∧ w.heap.size ≤ g) ∧ Hid (AppI w.heap.size wr o (seqI k)) ∧ Below w.heap.size w wr) (fun _ i _ => n - (intOf i).toNat)
  case atStart => exact ⟨0, Nat.zero_le _, rfl, ⟨_, 0, rfl, Nat.le_refl _⟩, Lib.hid (AppI.new (blknew _ _) (Nat.le_refl _)), belA⟩
  case round =>
    obtain ⟨k, hk, rfl, ⟨g, c, rfl, hg⟩, hA, hB⟩ := hrel
    have hz := hB.size
    by_cases hlt : k < n
    · have hk8 : (k : Int) < 9223372036854775807 := by omega
      have hW := Lib.hid (hA.out.below (w' := wr.alloc (.cells #[.int .i64 k] 2)) ((bal (Below.refl _ _) _)))
      go_wp2_with (at_builtin; refine wpList_append_lies _ rfl (.tmp 10) (.tmp 12) 168 rfl w.heap.size 2 i1 z1 1 8 Tryz.underlying168 I1.out Z1.out hs1 hb1 hl1 (by decide) (.slice (some ⟨g, 0, none⟩) k c) (seqI k).length _ rfl hW.out.1 ⟨wr.heap.size, 0, none⟩ 1 1 [.int .i64 k] rfl rfl (World.news_of_block (blknew _ _)) (by simp [Value.oneCell']) (by decide) (by rw [seqI_len]; unfold maxLen; omega) (by rw [seqI_len]; omega) (by simp; omega) _ rfl ?_; intro g1 cap1 w2 hown hgrow hat hlt3)
      go_roundw
      case rel =>
        have hN := hW.out.next (okN (n := k) (by omega)) hown
        have hAo := hA.out.ge
        have hb2 := grown_below (B := w.heap.size) hgrow (fun q hq => (hAo q hq).1) (by simp; omega)
        exact ⟨k + 1, by omega, by go_num, ⟨g1, cap1, by rw [seqI_len], by rcases hat with hat | hat; (have := (hAo g1 hat).1; omega); (simp at hat; omega)⟩, Lib.hid (by rw [seqI_succ]; exact hN), (hB.trans ((bal (Below.refl _ _) _).mono (by omega))).trans hb2⟩
      case measure => simp [intOf]; omega
    · have e : k = n := by omega
      subst e
      obtain ⟨_, _, hv, h1, h2⟩ := formI hA.out.lst
      injection hv with _ e2 e3
      subst e3
      rw [seqI_len] at h1
      clear e2
      go_wp2_with fail
      exact bodyPost_ret (v := .slice (some ⟨g, 0, none⟩) k c) (by simp [results, Tryz.results141, go_sem]) rfl ⟨g, c, rfl, hg, h1, h2, hA.out, hB⟩
theorem others_any (w : World) (k n : Nat) (e : Int) (hk : k ≤ n) (hn : n ≤ 5) :
    Calls Tryz.prog 225 #[.agg #[.int .i64 k, .int .i64 n, .int .u32 e]] w fun r w' => ∃ g o c, r = .returned (.slice (some ⟨g, o, none⟩) (n - k : Nat) c) ∧ w.heap.size ≤ g ∧ Lst (shI .i64) w' (othI k n) (.slice (some ⟨g, o, none⟩) (n - k : Nat) c) ∧ Below w.heap.size w w' := by
  have hk8 : (k : Int) ≤ (n : Int) := by omega
  go_enter Tryz.func225, Tryz.ntmps225
  go_wp2_with fail
  (refine wp_region_held_drew (S := (fun w' => w'.cell? ⟨w.heap.size, 0, none⟩ = some (.int .i64 k) ∧ w'.cell? ⟨w.heap.size, 1, none⟩ = some (.int .i64 n) ∧ w'.cell? ⟨w.heap.size, 2, none⟩ = some (.int .u32 e))) (by kernel_rfl) ?_ (fun hHeld => ?_); (focus (first | (simp [*, go_sem]; done) | fail)); refine rt 0 (some 3) (v := ?_) rfl rfl ?_ ?_; rotate_left; (focus (intro w' hSw; (try dsimp only at hSw); go_simp; (try with_reducible rfl))); (try simp only [Act.put, nA, nB, nC]); refine rt 1 (some 4) (v := ?_) rfl rfl ?_ ?_; rotate_left; (focus (intro w' hSw; (try dsimp only at hSw); go_simp; (try with_reducible rfl))); (try simp only [Act.put, nA, nB, nC]); refine rt 2 (some 5) (v := ?_) rfl rfl ?_ ?_; rotate_left; (focus (intro w' hSw; (try dsimp only at hSw); go_simp; (try with_reducible rfl))); (try simp only [Act.put, nA, nB, nC]); refine rt 4 (some 7) (v := ?_) rfl rfl ?_ ?_; rotate_left; (focus (intro w' hSw; (try dsimp only at hSw); go_simp; (try with_reducible rfl))); (try simp only [Act.put, nA, nB, nC]); refine rt 5 (some 8) (v := ?_) rfl rfl ?_ ?_; rotate_left; (focus (intro w' hSw; (try dsimp only at hSw); go_simp; (try with_reducible rfl))); (try simp only [Act.put, nA, nB, nC]); refine wpAnyH_ready (rs := [3]) (by kernel_rfl) (by simp) ?_; refine AllReadyH.cons rfl (fun K hK => ?_) AllReadyH.nil; go_simp; (go_at_call 141; refine Calls.mono (first_some _ n (by omega)) ?_; rintro e1 w1 ⟨g, c, rfl, hg, hc1, hc2, hA, hb⟩; have hcc : (k : Int) ≤ (c : Int) := (by omega); have HA := Lib.hid hA; have HB := Lib.hid (show Below w.heap.size w w1 from Below.trans belA (hb.mono (by simp))); have hg' : w.heap.size ≤ g := (by simp at hg; omega); have m0 := bkeep hb hHeld.1; have m1 := bkeep hb hHeld.2.1; have m2 := bkeep hb hHeld.2.2; clear hA hb hg); go_wp2_with fail; refine hK.out _ _ ?_ (fun hHeld => ?_); (focus (first | (simp [*, go_sem]; done) | fail)); clear hK K; (try simp only [Act.put, nA, nB, nC]); refine rt 6 (some 9) (v := ?_) rfl rfl ?_ ?_; rotate_left; (focus (intro w' hSw; (try dsimp only at hSw); go_simp; (try with_reducible rfl))); (try simp only [Act.put, nA, nB, nC]); refine rt 7 (some 2) (v := ?_) rfl rfl ?_ ?_; rotate_left; (focus (intro w' hSw; (try dsimp only at hSw); go_simp; (try with_reducible rfl))); (try simp only [Act.put, nA, nB, nC]); refine wpAnyH_done (by kernel_rfl) ?_ _)
  go_wp2_with fail
  · rename_i hck
    have hnk : n = k := by omega
    subst hnk
    have hnil : othI n n = [] := List.length_eq_zero_iff.1 (by rw [othI_len]; omega)
    refine bodyPost_ret (v := .slice (some ⟨g, 0, none⟩) (n - n : Nat) (c - n)) (by simp [results, Tryz.results225, go_sem, *]) rfl ⟨g, 0, c - n, rfl, hg', ?_, HB.out⟩
    rw [hnil, Nat.sub_self]
    exact (Own.nil (shI .i64) 0 _ _ (by omega) _).lst
  · refine bodyPost_ret (v := .slice (some ⟨g, k, none⟩) (n - k : Nat) (c - k)) (by simp [results, Tryz.results225, go_sem, *]) rfl ⟨g, k, c - k, rfl, hg', ?_, HB.out⟩
    have := lst_drop (k := k) HA.out.lst (seqI_len n).symm hk
    rw [Nat.zero_add] at this
    exact this
set_option maxHeartbeats 1000000 in
theorem fOn_any (w : World) (k n m : Nat) (e : Int) (L : List Int) (v : Value) (hk : k ≤ 5) (h : Lst (shI .i64) w L v) (hV : VL (seqI k ++ L)) (hm : k + L.length = m) :
    Calls Tryz.prog 227 #[.agg #[.int .i64 k, .int .i64 n, .int .u32 e], v] w fun r w' => r = .returned (.agg #[.int .i64 k, .int .i64 m, .int .u32 (onE e (seqI k ++ L))]) ∧ Below w.heap.size w w' := by
  have hlen : (seqI k ++ L).length = m := by rw [List.length_append, seqI_len]; exact hm
  have hl5 : m ≤ 5 := by rw [← hlen]; exact hV.1
  have H := Lib.hid h
  have HV := Lib.hid hV
  have HL := Lib.hid hlen
  have hLl : L.length ≤ 5 := by omega
  obtain ⟨A, cap, rfl, _, _⟩ := lstI h
  clear h hV hlen
  go_enter Tryz.func227, Tryz.ntmps227
  go_wp2_with fail
  (refine wp_region_held_drew (S := (fun w' => w'.cell? ⟨w.heap.size, 0, none⟩ = some (.int .i64 k) ∧ w'.cell? ⟨w.heap.size, 1, none⟩ = some (.int .i64 n) ∧ w'.cell? ⟨w.heap.size, 2, none⟩ = some (.int .u32 e))) (by kernel_rfl) ?_ (fun hHeld => ?_); (focus (first | (simp [*, go_sem]; done) | fail)); refine rt 0 (some 5) (v := ?_) rfl rfl ?_ ?_; rotate_left; (focus (intro w' hSw; (try dsimp only at hSw); go_simp; (try with_reducible rfl))); (try simp only [Act.put, nA, nB, nC]); refine rt 1 (some 6) (v := ?_) rfl rfl ?_ ?_; rotate_left; (focus (intro w' hSw; (try dsimp only at hSw); go_simp; (try with_reducible rfl))); (try simp only [Act.put, nA, nB, nC]); refine rt 2 (some 7) (v := ?_) rfl rfl ?_ ?_; rotate_left; (focus (intro w' hSw; (try dsimp only at hSw); go_simp; (try with_reducible rfl))); (try simp only [Act.put, nA, nB, nC]); refine rt 3 (some 8) (v := ?_) rfl rfl ?_ ?_; rotate_left; (focus (intro w' hSw; (try dsimp only at hSw); go_simp; (try with_reducible rfl))); (try simp only [Act.put, nA, nB, nC]); refine rt 4 (some 9) (v := ?_) rfl rfl ?_ ?_; rotate_left; (focus (intro w' hSw; (try dsimp only at hSw); go_simp; (try with_reducible rfl))); (try simp only [Act.put, nA, nB, nC]); refine rt 5 (some 10) (v := ?_) rfl rfl ?_ ?_; rotate_left; (focus (intro w' hSw; (try dsimp only at hSw); go_simp; (try with_reducible rfl))); (try simp only [Act.put, nA, nB, nC]); refine rt 7 (some 12) (v := ?_) rfl rfl ?_ ?_; rotate_left; (focus (intro w' hSw; (try dsimp only at hSw); go_simp; (try with_reducible rfl))); (try simp only [Act.put, nA, nB, nC]); refine wpAnyH_ready (rs := [6]) (by kernel_rfl) (by simp) ?_; refine AllReadyH.cons rfl (fun K hK => ?_) AllReadyH.nil; go_simp; (go_at_call 141; refine Calls.mono (first_some _ k (by omega)) ?_; rintro e1 w1 ⟨g, c, rfl, hg, hc1, hc2, hA, hb⟩; have m0 := bkeep hb hHeld.1; have m1 := bkeep hb hHeld.2.1; have m2 := bkeep hb hHeld.2.2; have HA := Lib.hid hA; have HB1 := Lib.hid (show Below w.heap.size w w1 from Below.trans belA (hb.mono (by simp <;> omega))); have hz1 : w.heap.size + 1 < w1.heap.size := (by have := hb.size; simp at this; omega); have KR1 := Lib.hid (show w1.heap[w.heap.size + 1]? = some (.cells #[.int .i64 0, .int .i64 0, .int .u32 0] 104 (0, 0)) from (hb.block _ (by simp)).trans (show ((w.alloc _).alloc _).heap[w.heap.size + 1]? = _ from blknew' _ _ _ (by simp))); clear hA hb hg); go_wp2_with fail; refine hK.out _ _ ?_ (fun hHeld => ?_); (focus (first | (simp [*, go_sem]; done) | fail)); clear hK K; (try simp only [Act.put, nA, nB, nC]); refine wpAnyH_ready (rs := [8]) (by kernel_rfl) (by simp) ?_; refine AllReadyH.cons rfl (fun K hK => ?_) AllReadyH.nil; (rw [if_pos (by simp [Region.wanted])]; refine wp_append_ints _ HA.out (H.out.below HB1.out) (by rw [seqI_len]; omega) (by simp; omega) (.tmp 11) (.tmp 12) rfl rfl rfl ?_; intro v2 w2 hA2 hb2; have HA2 := Lib.hid hA2; have HB2 := Lib.hid hb2; have n0 := (hb2.cell (p := ⟨w.heap.size, 0, none⟩) (by simp <;> omega)).trans m0; have n1 := (hb2.cell (p := ⟨w.heap.size, 1, none⟩) (by simp <;> omega)).trans m1; have n2 := (hb2.cell (p := ⟨w.heap.size, 2, none⟩) (by simp <;> omega)).trans m2; have KR2 := Lib.hid ((hb2.block (w.heap.size + 1) (by simp <;> omega)).trans KR1.out); have hz2 := hb2.size; clear hA2 hb2); refine hK.out _ _ ?_ (fun hHeld => ?_); (focus (first | (simp [*, go_sem]; done) | fail)); clear hK K; (try simp only [Act.put, nA, nB, nC]); refine wpAnyH_ready (rs := [9]) (by kernel_rfl) (by simp) ?_; refine AllReadyH.cons rfl (fun K hK => ?_) AllReadyH.nil; go_simp; (go_at_call 140; refine Calls.mono (on_any _ n e (seqI k ++ L) _ HA2.out.lst HV.out) ?_; rw [HL.out]; rintro e0 w3 ⟨rfl, hb⟩; have p0 := bkeep hb n0; have p1 := bkeep hb n1; have p2 := bkeep hb n2; have kr3 := (hb.block _ (blklt KR2.out)).trans KR2.out; have HB3 : Hid (Below w.heap.size w w3) := Lib.hid ((HB1.out.trans (HB2.out.mono (by simp <;> omega))).trans (hb.mono (by omega))); obtain ⟨r0, r1, r2⟩ := blkc3 kr3; have f0 : w3.frozen? ⟨w.heap.size + 1, 0, none⟩ = false := (by simp [World.frozen?, kr3]); have f1 : w3.frozen? ⟨w.heap.size + 1, 1, none⟩ = false := (by simp [World.frozen?, kr3]); have f2 : w3.frozen? ⟨w.heap.size + 1, 2, none⟩ = false := (by simp [World.frozen?, kr3]); have yr := blklt kr3; clear hb kr3); go_wp2_with fail; refine hK.out _ _ ?_ (fun hHeld => ?_); (focus (first | (simp [*, go_sem]; done) | fail)); clear hK K; (try simp only [Act.put, nA, nB, nC]); refine rt 10 (some 15) (v := ?_) rfl rfl ?_ ?_; rotate_left; (focus (intro w' hSw; (try dsimp only at hSw); go_simp; (try with_reducible rfl))); (try simp only [Act.put, nA, nB, nC]); refine wpAnyH_ready (rs := [11]) (by kernel_rfl) (by simp) ?_; refine AllReadyH.cons rfl (fun K hK => ?_) AllReadyH.nil; (try go_simp); refine hK.out _ _ ?_ (fun hHeld => ?_); (focus (first | (simp [*, go_sem]; done) | fail)); clear hK K; (try simp only [Act.put, nA, nB, nC]); refine wpAnyH_done (by kernel_rfl) ?_ _)
  clear hHeld
  have hb3 := HB3.out
  go_wp2_with fail
  exact bodyPost_ret (v := .agg #[.int .i64 k, .int .i64 m, .int .u32 (onE e (seqI k ++ L))]) (by simp [results, Tryz.results227, go_sem, *]) rfl ⟨rfl, belA⟩
def chI (n : Int) : Nat → Int
  | 0 => 1
  | i + 1 => (chI n i * (n - i)).tdiv (i + 1)
end Go.Proofs.YtekchdgpaemofaaGreat
