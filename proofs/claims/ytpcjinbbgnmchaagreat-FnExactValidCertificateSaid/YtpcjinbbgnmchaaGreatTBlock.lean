/- The laws' copies, sizes and equality of impl.Block and impl.Certificate. -/
import Derived.Test.YtpcjinbbgnmchaaGreatBk
import Derived.Test.YtpcjinbbgnmchaaGreatTSS
import Derived.Test.YtpcjinbbgnmchaaGreatTSum
namespace Go.Proofs.YtpcjinbbgnmchaaGreat
open Go.ChangeShapes Go.WideShapes Go.ChangeAt Go.RowKit
set_option linter.unusedVariables false
set_option linter.unusedSimpArgs false
attribute [local irreducible] Calls
/-- A block is returned, with memory of its own. -/
def BkRet (B : Nat) (b : Blk) (e : Ending) (w' : World) : Prop := ∃ A cap A' cap' F, e = .returned (.agg #[.slice A b.1.length cap, .slice A' b.2.length cap']) ∧ shBlock.own w' b [.slice A b.1.length cap, .slice A' b.2.length cap'] F ∧ F.Nodup ∧ ∀ k ∈ F, B ≤ k
theorem toBlock_any (w : World) (b : Blk) (v v' : Value) (h : Lst shFlag w b.1 v) (h' : Lst (shL shFr) w b.2 v') (hb : b.1.length ≤ 1048576) (hb' : b.2.length + lenSS b.2 ≤ 1048576) :
    Calls Tryz.prog 123 #[.agg #[v, v']] w fun e0 w' => BkRet w.heap.size b e0 w' ∧ Below w.heap.size w w' := by
  obtain ⟨A0, cap0, rfl, _, _⟩ := formFlag h
  obtain ⟨A1, cap1, rfl, _, _⟩ := formFrSS h'
  go_enter Tryz.func123, Tryz.ntmps123
  (go_wp2_with fail; refine Calls.mono (toFlagS_any _ b.1 _ (h.below belA) hb) ?_; rintro e0 w1 ⟨A2, cap2, F2, rfl, hO2, hb⟩; obtain ⟨X2, m2, rfl⟩ := plsOf hb; clear hb); (try simp only [pls_pls, drew_pls, drewN_pls, pls_drew, pls_drewN] at hO2); have hO2 := Lib.hid hO2
  (go_wp2_with fail; refine Calls.mono (toFractionSS_any _ b.2 _ (h'.below belA) hb') ?_; rintro e0 w1 ⟨A3, cap3, F3, rfl, hO3, hb⟩; obtain ⟨X3, m3, rfl⟩ := plsOf hb; clear hb); (try simp only [pls_pls, drew_pls, drewN_pls, pls_drew, pls_drewN] at hO3); have hO3 := Lib.hid hO3
  go_wp2_with fail
  have PRE : True := trivial
  refine bodyPost_ret (v := .agg #[.slice A2 b.1.length cap2, .slice A3 b.2.length cap3]) (by simp [results, Tryz.results123, go_sem, *]) rfl ⟨⟨A2, cap2, A3, cap3, F2 ++ F3, rfl, ⟨[_], [_], F2, F3, rfl, rfl, (hO2.out.pre (B' := w.heap.size) (by (try simp only [Array.append_assoc]); repeat (first | exact Pre.refl _ | exact Pre.base _ _ | refine Pre.cons _ ?_)) (by simp) (by simp) (by simp <;> omega)).1, (hO3.out.pre (B' := w.heap.size) (by (try simp only [Array.append_assoc]); repeat (first | exact Pre.refl _ | exact Pre.base _ _ | refine Pre.cons _ ?_)) (by simp <;> omega) (by simp) (by simp <;> omega)).1⟩, ?_, ?_⟩, belA⟩
  · rw [List.nodup_append]
    refine ⟨hO2.out.2.1, hO3.out.2.1, fun a ha b hb e => ?_⟩
    have := hO2.out.lt a ha
    have := hO3.out.ge b hb
    simp at *
    omega
  · intro k hk
    rcases List.mem_append.1 hk with hk | hk
    · have := hO2.out.ge k hk; simp at *; omega
    · have := hO3.out.ge k hk; simp at *; omega
theorem eqBlock_same (w : World) (b : Blk) (v v' u u' : Value) (h : Lst shFlag w b.1 v) (h' : Lst (shL shFr) w b.2 v') (k : Lst shFlag w b.1 u) (k' : Lst (shL shFr) w b.2 u') (hb : b.1.length ≤ 1048576) (hb' : b.2.length + lenSS b.2 ≤ 1048576) :
    Calls Tryz.prog 127 #[.agg #[v, v'], .agg #[u, u']] w fun e0 w' => e0 = .returned (.bool true) ∧ Below w.heap.size w w' := by
  go_enter Tryz.func127, Tryz.ntmps127
  go_wp2_with (first | (go_at_call 184; refine Calls.mono (eqFlagS_same _ b.1 _ _ (h.below belA) (k.below belA) (by omega)) ?_; rintro e w1 ⟨rfl, hb⟩; obtain ⟨X, m, rfl⟩ := plsOf hb; clear hb) | (go_at_call 185; refine Calls.mono (eqFractionSS_same _ b.2 _ _ (h'.below belA) (k'.below belA) hb') ?_; rintro e w1 ⟨rfl, hb⟩; obtain ⟨X, m, rfl⟩ := plsOf hb; clear hb))
  go_ret
  exact ⟨rfl, belA⟩
theorem szBlock_any (w : World) (b : Blk) (v v' : Value) (left : Int) (h : Lst shFlag w b.1 v) (h' : Lst (shL shFr) w b.2 v') (h1 : -1 ≤ left) (h2 : left ≤ 1048576) :
    Calls Tryz.prog 118 #[.agg #[v, v'], .int .i64 left] w fun e0 w' => e0 = .returned (.int .i64 (szBl left b)) ∧ Below w.heap.size w w' := by
  obtain ⟨A0, cap0, rfl, hc, hm⟩ := formFlag h
  have hb1 := szI_bd (left := left) (n := b.1.length) h1 h2 (by omega)
  by_cases hs : szI left b.1.length < 0
  · have hx : szBl left b = -1 := by unfold szBl szSS; rw [if_pos (by omega)]
    go_enter Tryz.func118, Tryz.ntmps118
    go_wp2_with (first | (go_at_call 175; refine Calls.mono (szFlagS_any b.1.length _ _ _ _ h1 h2 hc hm) ?_; rintro e w1 ⟨rfl, rfl⟩))
    exact bodyPost_ret (v := .int .i64 (-1)) (by simp [results, Tryz.results118, go_sem]) rfl ⟨by rw [hx], belA⟩
  · by_cases hs2 : szSS (szI left b.1.length) b.2 < 0
    · have hx : szBl left b = -1 := by
        have := szSS_bd (xss := b.2) (left := szI left b.1.length) hb1.1 hb1.2
        unfold szBl; omega
      go_enter Tryz.func118, Tryz.ntmps118
      go_wp2_with (first | (go_at_call 175; refine Calls.mono (szFlagS_any b.1.length _ _ _ _ h1 h2 hc hm) ?_; rintro e w1 ⟨rfl, rfl⟩) | (go_at_call 176; refine Calls.mono (szFractionSS_any _ b.2 _ _ (h'.below belA) (by omega) (by omega)) ?_; rintro e w1 ⟨rfl, hb⟩; obtain ⟨X, m, rfl⟩ := plsOf hb; clear hb))
      exact bodyPost_ret (v := .int .i64 (-1)) (by simp [results, Tryz.results118, go_sem]) rfl ⟨by rw [hx], belA⟩
    · go_enter Tryz.func118, Tryz.ntmps118
      go_wp2_with (first | (go_at_call 175; refine Calls.mono (szFlagS_any b.1.length _ _ _ _ h1 h2 hc hm) ?_; rintro e w1 ⟨rfl, rfl⟩) | (go_at_call 176; refine Calls.mono (szFractionSS_any _ b.2 _ _ (h'.below belA) (by omega) (by omega)) ?_; rintro e w1 ⟨rfl, hb⟩; obtain ⟨X, m, rfl⟩ := plsOf hb; clear hb))
      exact bodyPost_ret (v := .int .i64 (szSS (szI left b.1.length) b.2)) (by simp [results, Tryz.results118, go_sem]) rfl ⟨rfl, belA⟩
theorem toBlockS_any (w : World) (bs : List Blk) (v : Value) (h : Lst shBlock w bs v) (hb : bs.length ≤ 1048576) (hbs : ∀ b ∈ bs, b.1.length ≤ 1048576 ∧ b.2.length + lenSS b.2 ≤ 1048576) :
    Calls Tryz.prog 57 #[v] w fun e w' => ∃ A cap F, e = .returned (.slice A bs.length cap) ∧ Own shBlock w.heap.size w' bs (.slice A bs.length cap) F ∧ Below w.heap.size w w' := by
  obtain ⟨A0, cap0, rfl, hc, hm, hel⟩ := lstBlock h
  clear h
  have HBS := Lib.hid hbs
  clear hbs
  obtain ⟨cur, hcur, hmk⟩ := mk_slice (P := Tryz.prog) Tryz.underlying57 (sz := 2) (bytes := 48) (e := 105) (by kernel_rfl) bs.length (by omega) (by omega)
  have hel' := Lib.hid hel; clear hel
  go_enter Tryz.func57, Tryz.ntmps57
  go_wp2
  go_loopw [4] (fun i wr => ∃ (k : Nat), k ≤ bs.length ∧ i = .int .i64 k ∧ RowsP shBlock w.heap.size wr w.heap.size 105 (bs.length * 2) (bs.take k) ∧ Below w.heap.size w wr) (fun i _ => bs.length - (intOf i).toNat)
  case atStart => exact ⟨0, Nat.zero_le _, rfl, RowsP.new hcur, belA⟩
  case round =>
    clear hmk hcur
    obtain ⟨k, hk, rfl, hg, hB⟩ := hrel
    by_cases hlt : k < bs.length
    · obtain ⟨bl, off, rfl, hel⟩ := hel'.out (by omega)
      clear hel'
      obtain ⟨b, vf, vm, hd, hL, hL', c0, c1⟩ := hel k hlt
      clear hel
      replace c0 := bkeep hB c0
      replace c1 := bkeep hB c1
      have hL1 := hL.below hB
      have hL2 := hL'.below hB
      obtain ⟨hl1, hl2⟩ := HBS.out b (List.mem_of_getElem? hd)
      obtain ⟨⟨u0, e0⟩, f0⟩ := hg.cell (p := k * 2) (by omega)
      obtain ⟨⟨u1, e1⟩, f1⟩ := hg.cell (p := k * 2 + 1) (by omega)
      have hz := hg.lt
      have hd := Lib.hid hd
      have hg := Lib.hid hg
      clear hL hL'
      go_wp2_with fail
      refine Calls.mono (toBlock_any _ b vf vm (hL1.below belA) (hL2.below belA) hl1 hl2) ?_
      rintro e w1 ⟨⟨A, cap, A', cap', F, rfl, hO, hN, hF⟩, hb1⟩
      obtain ⟨X, m, rfl⟩ := plsOf hb1
      clear hb1
      have hO := Lib.hid hO
      go_wp2_with fail
      go_roundw
      case rel =>
        exact ⟨k + 1, by omega, by go_num, hg.out.step2 hd.out hO.out hN hF rfl (by omega), belA⟩
      case measure => simp [intOf]; omega
    · have e : k = bs.length := by omega
      subst e
      obtain ⟨F, hO⟩ := hg.all (n := bs.length) (Nat.le_refl _) (Nat.le_trans hc hm) (Nat.le_refl _)
      go_wp2
      exact bodyPost_ret (v := .slice (some ⟨w.heap.size, 0, none⟩) bs.length bs.length) (by simp [results, Tryz.results57, go_sem]) rfl ⟨_, _, _, rfl, hO, belA⟩
theorem eqBlockS_same (w : World) (bs : List Blk) (v v' : Value) (h : Lst shBlock w bs v) (h' : Lst shBlock w bs v') (hb : bs.length ≤ 1048576) (hbs : ∀ b ∈ bs, b.1.length ≤ 1048576 ∧ b.2.length + lenSS b.2 ≤ 1048576) :
    Calls Tryz.prog 66 #[v, v'] w fun e w' => e = .returned (.bool true) ∧ Below w.heap.size w w' := by
  obtain ⟨A, cap, rfl, hc, hm, hel⟩ := lstBlock h
  obtain ⟨A', cap', rfl, hc', hm', hel'⟩ := lstBlock h'
  clear h h'
  have H1 := Lib.hid hel
  have H2 := Lib.hid hel'
  have HBS := Lib.hid hbs
  clear hel hel' hbs
  go_enter Tryz.func66, Tryz.ntmps66
  go_wp2
  go_loopw [5] (fun i wr => ∃ (k : Nat), k ≤ bs.length ∧ i = .int .i64 k ∧ Below w.heap.size w wr) (fun i _ => bs.length - (intOf i).toNat)
  case atStart => exact ⟨0, Nat.zero_le _, rfl, belA⟩
  case round =>
    obtain ⟨k, hk, rfl, hB⟩ := hrel
    by_cases hlt : k < bs.length
    · obtain ⟨bl, off, rfl, hel⟩ := H1.out (by omega)
      obtain ⟨bl', off', rfl, hel'⟩ := H2.out (by omega)
      clear H1 H2
      obtain ⟨b, vf, vm, hd, hL, hM, c0, c1⟩ := hel k hlt
      obtain ⟨b', vf', vm', hd', hL', hM', e0, e1⟩ := hel' k hlt
      rw [hd] at hd'
      cases hd'
      clear hel hel'
      obtain ⟨hl1, hl2⟩ := HBS.out b (List.mem_of_getElem? hd)
      clear hd
      replace c0 := bkeep hB c0
      replace e0 := bkeep hB e0
      replace c1 := bkeep hB c1
      replace e1 := bkeep hB e1
      have hL1 := hL.below hB
      have hL2 := hL'.below hB
      have hM1 := hM.below hB
      have hM2 := hM'.below hB
      clear hL hL' hM hM'
      have z1 : bl < wr.heap.size := World.block_lt_of_cell? _ _ c0
      have z2 : bl' < wr.heap.size := World.block_lt_of_cell? _ _ e0
      go_wp2
      go_region_held3 (fun w' => w'.cell? ⟨bl, off + k * 2, none⟩ = some vf ∧ w'.cell? ⟨bl, off + k * 2 + 1, none⟩ = some vm ∧ w'.cell? ⟨bl', off' + k * 2, none⟩ = some vf' ∧ w'.cell? ⟨bl', off' + k * 2 + 1, none⟩ = some vm') (simp [*, go_sem]) (first | (go_at_call 127; refine Calls.mono (eqBlock_same _ b vf vm vf' vm' (hL1.below belA) (hM1.below belA) (hL2.below belA) (hM2.below belA) hl1 hl2) ?_; rintro e w1 ⟨rfl, hb⟩; obtain ⟨X, m, rfl⟩ := plsOf hb; clear hb))
      all_goals (go_wp2_with fail)
      go_roundw
      case rel => exact ⟨k + 1, by omega, by go_num, belA⟩
      case measure => simp [intOf]; omega
    · go_wp2
      go_ret
      exact ⟨rfl, belA⟩
theorem szBlockS_any (w : World) (bs : List Blk) (v : Value) (left : Int) (h : Lst shBlock w bs v) (h1 : -1 ≤ left) (h2 : left ≤ 1048576) :
    Calls Tryz.prog 53 #[v, .int .i64 left] w fun e w' => e = .returned (.int .i64 (szBs left bs)) ∧ Below w.heap.size w w' := by
  obtain ⟨A, cap, rfl, hc, hm, hel⟩ := lstBlock h
  unfold maxLen at hm
  clear h
  have H1 := Lib.hid hel
  clear hel
  by_cases hl : left - (bs.length : Int) < 0
  · have hx : szBs left bs = -1 := if_pos hl
    go_enter Tryz.func53, Tryz.ntmps53
    go_wp2
    exact bodyPost_ret (v := .int .i64 (-1)) (by simp [results, Tryz.results53, go_sem]) rfl ⟨by rw [hx], belA⟩
  · have hx : szBs left bs = szBlRun (left - bs.length) bs := if_neg hl
    have hx := Lib.hid hx
    go_enter Tryz.func53, Tryz.ntmps53
    go_wp2
    go_loopw [1, 5] (fun a i wr => ∃ (k : Nat) (l : Int), k ≤ bs.length ∧ i = .int .i64 k ∧ a = .int .i64 l ∧ 0 ≤ l ∧ l ≤ 1048576 ∧ szBlRun l (bs.drop k) = szBs left bs ∧ Below w.heap.size w wr) (fun _ i _ => bs.length - (intOf i).toNat)
    case atStart => exact ⟨0, left - bs.length, Nat.zero_le _, rfl, rfl, by omega, by omega, by rw [List.drop_zero, hx.out], belA⟩
    case round =>
      obtain ⟨k, l, hk, rfl, rfl, hl0, hl1, hr, hB⟩ := hrel
      have hr := Lib.hid hr
      by_cases hlt : k < bs.length
      · obtain ⟨bl, off, rfl, hel⟩ := H1.out (by omega)
        clear H1
        obtain ⟨b, vf, vm, hd, hL, hM, c0, c1⟩ := hel k hlt
        clear hel
        replace c0 := bkeep hB c0
        replace c1 := bkeep hB c1
        have hL1 := hL.below hB
        have hM1 := hM.below hB
        clear hL hM
        have hs : szBlRun l (bs.drop k) = if szBl l b < 0 then -1 else szBlRun (szBl l b) (bs.drop (k + 1)) := by
          obtain ⟨hk2, e⟩ := List.getElem?_eq_some_iff.1 hd
          rw [List.drop_eq_getElem_cons hk2, e]
          rfl
        have hs := Lib.hid hs
        have hd := Lib.hid hd
        have hz1 := szBl_bd (b := b) (l := l) (by omega)
        have hz2 := hz1.1
        have hz3 := hz1.2.1
        clear hz1
        by_cases hn : szBl l b < 0
        · go_wp2_with (first | (go_at_call 118; refine Calls.mono (szBlock_any _ b vf vm l (hL1.below belA) (hM1.below belA) (by omega) (by omega)) ?_; rintro e w1 ⟨rfl, hb⟩; obtain ⟨X, m, rfl⟩ := plsOf hb; clear hb))
          exact bodyPost_ret (v := .int .i64 (-1)) (by simp [results, Tryz.results53, go_sem]) rfl ⟨by rw [← hr.out, hs.out, if_pos hn], belA⟩
        · go_wp2_with (first | (go_at_call 118; refine Calls.mono (szBlock_any _ b vf vm l (hL1.below belA) (hM1.below belA) (by omega) (by omega)) ?_; rintro e w1 ⟨rfl, hb⟩; obtain ⟨X, m, rfl⟩ := plsOf hb; clear hb))
          go_roundw
          case rel => exact ⟨k + 1, szBl l b, by omega, by go_num, rfl, by omega, by omega, by rw [← hr.out, hs.out, if_neg (by omega)], belA⟩
          case measure => simp [intOf]; omega
      · have e : k = bs.length := by omega
        subst e
        go_wp2
        exact bodyPost_ret (v := .int .i64 l) (by simp [results, Tryz.results53, go_sem]) rfl ⟨by rw [← hr.out, List.drop_length]; rfl, belA⟩
theorem toCertificate_any (w : World) (s : Int) (bs : List Blk) (v : Value) (h : Lst shBlock w bs v) (hb : bs.length ≤ 1048576) (hbs : ∀ b ∈ bs, b.1.length ≤ 1048576 ∧ b.2.length + lenSS b.2 ≤ 1048576) :
    Calls Tryz.prog 23 #[.agg #[.int .i64 s, v]] w fun e w' => ∃ A cap F, e = .returned (.agg #[.int .i64 s, .slice A bs.length cap]) ∧ Own shBlock w.heap.size w' bs (.slice A bs.length cap) F ∧ Below w.heap.size w w' := by
  obtain ⟨A0, cap0, rfl, _, _⟩ := formBlock h
  go_enter Tryz.func23, Tryz.ntmps23
  (go_wp2_with fail; refine Calls.mono (toBlockS_any _ bs _ (h.below belA) hb hbs) ?_; rintro e0 w1 ⟨A2, cap2, F2, rfl, hO2, hb⟩; obtain ⟨X2, m2, rfl⟩ := plsOf hb; clear hb); (try simp only [pls_pls, drew_pls, drewN_pls, pls_drew, pls_drewN] at hO2); have hO2 := Lib.hid hO2
  go_wp2_with fail
  refine bodyPost_ret (v := .agg #[.int .i64 s, .slice A2 bs.length cap2]) (by simp [results, Tryz.results23, go_sem, *]) rfl ⟨A2, cap2, F2, rfl, ?_, belA⟩
  exact hO2.out.pre (by (try simp only [Array.append_assoc]); repeat (first | exact Pre.refl _ | exact Pre.base _ _ | refine Pre.cons _ ?_)) (by simp) (by simp) (by simp <;> omega)
theorem eqCertificate_same (w : World) (s : Int) (bs : List Blk) (v v' : Value) (h : Lst shBlock w bs v) (h' : Lst shBlock w bs v') (hb : bs.length ≤ 1048576) (hbs : ∀ b ∈ bs, b.1.length ≤ 1048576 ∧ b.2.length + lenSS b.2 ≤ 1048576) :
    Calls Tryz.prog 26 #[.agg #[.int .i64 s, v], .agg #[.int .i64 s, v']] w fun e0 w' => e0 = .returned (.bool true) ∧ Below w.heap.size w w' := by
  have h1 : (s != s) = false := by simp
  go_enter Tryz.func26, Tryz.ntmps26
  go_wp2_with (first | (go_at_call 66; refine Calls.mono (eqBlockS_same _ bs v v' (h.below belA) (h'.below belA) hb hbs) ?_; rintro e w1 ⟨rfl, hb⟩; obtain ⟨X, m, rfl⟩ := plsOf hb; clear hb))
  go_ret
  exact ⟨rfl, belA⟩
theorem szCertificate_any (w : World) (s : Int) (bs : List Blk) (v : Value) (left : Int) (h : Lst shBlock w bs v) (h1 : -1 ≤ left) (h2 : left ≤ 1048576) :
    Calls Tryz.prog 20 #[.agg #[.int .i64 s, v], .int .i64 left] w fun e0 w' => e0 = .returned (.int .i64 (szBs left bs)) ∧ Below w.heap.size w w' := by
  have hb1 := szBs_bd (bs := bs) h1 h2
  by_cases hs : szBs left bs < 0
  · have hx : szBs left bs = -1 := by omega
    go_enter Tryz.func20, Tryz.ntmps20
    go_wp2_with (first | (go_at_call 53; refine Calls.mono (szBlockS_any _ bs v _ (h.below belA) h1 h2) ?_; rintro e w1 ⟨rfl, hb⟩; obtain ⟨X, m, rfl⟩ := plsOf hb; clear hb))
    exact bodyPost_ret (v := .int .i64 (-1)) (by simp [results, Tryz.results20, go_sem]) rfl ⟨by rw [hx], belA⟩
  · go_enter Tryz.func20, Tryz.ntmps20
    go_wp2_with (first | (go_at_call 53; refine Calls.mono (szBlockS_any _ bs v _ (h.below belA) h1 h2) ?_; rintro e w1 ⟨rfl, hb⟩; obtain ⟨X, m, rfl⟩ := plsOf hb; clear hb))
    exact bodyPost_ret (v := .int .i64 (szBs left bs)) (by simp [results, Tryz.results20, go_sem]) rfl ⟨rfl, belA⟩
end Go.Proofs.YtpcjinbbgnmchaaGreat
