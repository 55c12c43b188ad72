import Derived.Test.YtekchdgpaemofaaGreatYyDn
import Derived.Test.YtekchdgpaemofaaGreatYyDf
namespace Go.Proofs.YtekchdgpaemofaaGreat
open Go.ChangeShapes Go.WideShapes Go.RowKit
set_option linter.unusedVariables false
set_option linter.unusedSimpArgs false
attribute [local irreducible] Calls
def IntB (w : World) (g o : Nat) (ys : List Int) : Prop := ∃ (cu : Array Value) (t : TypeId), w.heap[g]? = some (.cells cu t (0, 0)) ∧ o + ys.length ≤ cu.size ∧ (∀ (i : Nat) (d : Int), ys[i]? = some d → cu[o + i]? = some (.int .i64 d)) ∧ ∀ d ∈ ys, okI .i64 d
theorem IntB.lst {w : World} {g o cap : Nat} {ys : List Int} (h : IntB w g o ys) (hc : ys.length ≤ cap) (hm : cap ≤ maxLen) : Lst (shI .i64) w ys (.slice (some ⟨g, o, none⟩) ys.length cap) := by
  obtain ⟨cu, t, hh, hs, hel, hok⟩ := h
  refine ⟨_, _, rfl, hc, hm, fun hp => ⟨g, o, rfl, fun i d hi => ⟨[.int .i64 d], ((flat_int .i64).1 _ _ _).2 ⟨rfl, hok d (List.mem_of_getElem? hi)⟩, fun j hj => ?_⟩⟩⟩
  have hj0 : j = 0 := by have : j < 1 := hj; omega
  subst hj0
  show w.cell? ⟨g, o + (i * 1 + 0), none⟩ = _
  rw [show o + (i * 1 + 0) = o + i by omega]
  simp [World.cell?, hh, hel i d hi]
theorem IntB.below {B : Nat} {w w' : World} {g o : Nat} {ys : List Int} (h : IntB w g o ys) (hb : Below B w w') (hg : g < B) : IntB w' g o ys := by
  obtain ⟨cu, t, hh, r⟩ := h
  exact ⟨cu, t, bblk hb hg hh, r⟩
theorem IntB.cell {w : World} {g o : Nat} {ys : List Int} (h : IntB w g o ys) {i : Nat} {d : Int} (hi : ys[i]? = some d) : w.cell? ⟨g, o + i, none⟩ = some (.int .i64 d) := by
  obtain ⟨cu, t, hh, hs, hel, hok⟩ := h
  simp [World.cell?, hh, hel i d hi]
theorem IntB.frozen {w : World} {g o : Nat} {ys : List Int} (h : IntB w g o ys) (i : Nat) : w.frozen? ⟨g, i, none⟩ = false := by
  obtain ⟨cu, t, hh, _⟩ := h
  simp [World.frozen?, hh]
theorem IntB.lt {w : World} {g o : Nat} {ys : List Int} (h : IntB w g o ys) : g < w.heap.size := by
  obtain ⟨cu, t, hh, _⟩ := h
  exact blklt hh
theorem IntB.set {w : World} {g o : Nat} {ys : List Int} (h : IntB w g o ys) {i : Nat} {d : Int} (hi : i < ys.length) (hd : okI .i64 d) : IntB (w.setCell ⟨g, o + i, none⟩ (.int .i64 d)) g o (ys.set i d) := by
  obtain ⟨cu, t, hh, hs, hel, hok⟩ := h
  refine ⟨_, t, blkset0 hh (o + i) (.int .i64 d), by rw [List.length_set, Array.size_setIfInBounds]; exact hs, fun j x hj => ?_, fun x hx => ?_⟩
  · rw [Array.getElem?_setIfInBounds]
    rw [List.getElem?_set] at hj
    by_cases hij : i = j
    · subst hij
      rw [if_pos rfl] at hj
      rw [if_pos rfl, if_pos (by omega)]
      rw [if_pos hi] at hj
      cases hj
      rfl
    · rw [if_neg hij] at hj
      rw [if_neg (by omega)]
      exact hel j x hj
  · rcases List.mem_or_eq_of_mem_set hx with h1 | rfl
    · exact hok x h1
    · exact hd
theorem IntB.cut {w : World} {g o : Nat} {ys : List Int} (h : IntB w g o ys) {i : Nat} (hi : i ≤ ys.length) (vs : List Value) (hv : o + i + vs.length ≤ o + ys.length) : IntB (w.setCells g (o + i) vs) g o (ys.take i) := by
  obtain ⟨cu, t, hh, hs, hel, hok⟩ := h
  refine ⟨_, t, setCells_blk g t vs w cu (o + i) hh, by rw [setRun_size, List.length_take]; omega, fun j x hj => ?_, fun x hx => hok x (List.mem_of_mem_take hx)⟩
  have hji : j < i := by
    have := (List.getElem?_eq_some_iff.1 hj).1
    rw [List.length_take] at this
    omega
  rw [setRun_at _ _ _ _ (by omega), if_neg (by omega)]
  rw [List.getElem?_take_of_lt hji] at hj
  exact hel j x hj
theorem setCells_chg (g : Nat) (vs : List Value) : ∀ (w : World) (o : Nat), Chg [g] w (w.setCells g o vs) := by
  induction vs with
  | nil => exact fun w o => Chg.refl _ _
  | cons v vs ih => exact fun w o => ((Chg.refl [g] w).set (p := ⟨g, o, none⟩) (by simp) v).trans (ih _ _)
theorem idxInt_any (w : World) (xs : List Int) (v : Value) (f : FuncId) (caps : Array Value) (P : Int → Bool) (h : Lst (shI .i64) w xs v) (hb : xs.length ≤ 100)
    (eg : ∀ args w, (callFunc f args).run Tryz.prog w = .ok (.enter f args) w)
    (hf : ∀ (W : World) (d : Int), Below w.heap.size w W → d ∈ xs → Calls Tryz.prog f (#[.int .i64 d] ++ caps) W fun e W' => e = .returned (.bool (P d)) ∧ Below W.heap.size W W') :
    Calls Tryz.prog 272 #[v, .func (.func f) #[] caps] w fun e w' => e = .returned (.int .i64 (idxI P xs)) ∧ Below w.heap.size w w' := by
  obtain ⟨A, cap, rfl, hc, hm, hel⟩ := lstI h
  clear h
  have H1 := Lib.hid hel
  have HF := Lib.hid hf
  clear hel hf
  go_enter Tryz.func272, Tryz.ntmps272
  go_wp2_with fail
  go_loopw [8] (fun i wr => ∃ (k : Nat), k ≤ xs.length ∧ i = .int .i64 k ∧ (∀ a ∈ xs.take k, P a = false) ∧ Below w.heap.size w wr) (fun i _ => xs.length - (intOf i).toNat)
  case atStart => exact ⟨0, Nat.zero_le _, rfl, by simp, belA⟩
  case round =>
    obtain ⟨k, hk, rfl, ht, hB⟩ := hrel
    have HT := Lib.hid ht
    clear ht
    by_cases hlt : k < xs.length
    · obtain ⟨bl, off, rfl, hel⟩ := H1.out (by omega)
      clear H1
      have c0 := hel k hlt
      clear hel
      have hd0 : xs[k]? = some (gi xs k) := by simp [gi, List.getElem?_eq_getElem hlt]
      obtain ⟨d, hd⟩ : ∃ d, gi xs k = d := ⟨_, rfl⟩
      rw [hd] at c0 hd0
      have hmem : Hid (d ∈ xs) := Lib.hid (List.mem_of_getElem? hd0)
      have hd := Lib.hid hd0
      clear hd0
      replace c0 := bkeep hB c0
      go_wp2_with fail
      refine Calls.mono (HF.out wr d hB hmem.out) ?_
      rintro e w1 ⟨rfl, hb1⟩
      obtain ⟨X, m, rfl⟩ := plsOf hb1
      clear hb1
      cases hp : P d
      · go_wp2_with fail
        go_roundw
        case rel => exact ⟨k + 1, by omega, by go_num, mem_take_succ HT.out hd.out hp, belA⟩
        case measure => simp [intOf]; omega
      · have hr : Hid (idxI P xs = (k : Int)) := Lib.hid (idxI_at HT.out hd.out hp)
        go_wp2_with fail
        exact bodyPost_ret (v := .int .i64 k) (by simp [results, Tryz.results272, go_sem]) rfl ⟨by rw [hr.out], belA⟩
    · have e : k = xs.length := by omega
      have hr : Hid (idxI P xs = -1) := Lib.hid (idxI_none (by have := HT.out; rw [e, List.take_length] at this; exact this))
      go_wp2_with fail
      exact bodyPost_ret (v := .int .i64 (-1)) (by simp [results, Tryz.results272, go_sem]) rfl ⟨by rw [hr.out], belA⟩
set_option maxRecDepth 20000 in
set_option maxHeartbeats 2000000 in
theorem delInt_any (w : World) (xs : List Int) (g o cap : Nat) (f : FuncId) (caps : Array Value) (P : Int → Bool) (h : IntB w g o xs) (hl : xs.length ≤ 100) (hc : xs.length ≤ cap) (hm : cap ≤ maxLen)
    (eg : ∀ args w, (callFunc f args).run Tryz.prog w = .ok (.enter f args) w)
    (hf : ∀ (W : World) (d : Int), Chg [g] w W → d ∈ xs → Calls Tryz.prog f (#[.int .i64 d] ++ caps) W fun e W' => e = .returned (.bool (P d)) ∧ Below W.heap.size W W') :
    Calls Tryz.prog 229 #[.slice (some ⟨g, o, none⟩) xs.length cap, .func (.func f) #[] caps] w fun e w' => e = .returned (.slice (some ⟨g, o, none⟩) (xs.filter fun d => !P d).length cap) ∧ IntB w' g o (xs.filter fun d => !P d) ∧ Chg [g] w w' := by
  have IX : Hid (∀ W, Below w.heap.size w W → Calls Tryz.prog 272 #[.slice (some ⟨g, o, none⟩) xs.length cap, .func (.func f) #[] caps] W fun e w' => e = .returned (.int .i64 (idxI P xs)) ∧ Below W.heap.size W w') := Lib.hid fun W hW => idxInt_any W xs _ f caps P ((h.lst hc hm).below hW) hl eg (fun W' d hW' hd => hf W' d (Chg.of (hW.trans (hW'.mono hW.size)) _) hd)
  by_cases hall : ∀ a ∈ xs, P a = false
  · have hr : Hid (idxI P xs = -1) := Lib.hid (idxI_none hall)
    have hfl : Hid (xs.filter (fun d => !P d) = xs) := Lib.hid (List.filter_eq_self.2 fun a ha => by simp [hall a ha])
    have H := Lib.hid h
    have hg := h.lt
    clear hall h hf
    rw [hfl.out]
    go_enter Tryz.func229, Tryz.ntmps229
    go_wp2_with (first | (go_at_call 272; refine Calls.mono (IX.out _ belA) ?_; rw [hr.out]; rintro e w1 ⟨rfl, hb⟩; obtain ⟨X, m, rfl⟩ := plsOf hb; clear hb))
    have hbb : Below w.heap.size w (pls w X m) := belA
    exact bodyPost_ret (v := .slice (some ⟨g, o, none⟩) xs.length cap) (by simp [results, Tryz.results229, go_sem]) rfl ⟨rfl, H.out.below hbb hg, Chg.of hbb _⟩
  · obtain ⟨k, d0, hd0, hp0, hbef⟩ : ∃ (k : Nat) (d : Int), xs[k]? = some d ∧ P d = true ∧ ∀ a ∈ xs.take k, P a = false := first_of P xs hall
    have hr : Hid (idxI P xs = (k : Int)) := Lib.hid (idxI_at hbef hd0 hp0)
    have hk0 : k < xs.length := (List.getElem?_eq_some_iff.1 hd0).1
    have hst : Hid (Kept P xs xs k (k + 1)) := Lib.hid (Kept.start hd0 hp0 hbef)
    have H := Lib.hid h
    have HF := Lib.hid hf
    have hgw := h.lt
    obtain ⟨N, hN⟩ : ∃ N : Nat, Hid (xs.length = N) := ⟨_, Lib.hid rfl⟩
    rw [hN.out] at IX hk0 hl hc
    rw [hN.out]
    clear hall h hf hd0 hp0 hbef
    have hk1 : ((k : Int) == -1) = false := by simp
    go_enter Tryz.func229, Tryz.ntmps229
    go_wp2_with (first | (go_at_call 272; refine Calls.mono (IX.out _ belA) ?_; rw [hr.out]; rintro e w1 ⟨rfl, hb⟩; obtain ⟨X, m, rfl⟩ := plsOf hb; clear hb))
    go_loopw [5, 6] (fun oi oj wr => ∃ (i j : Nat) (ys : List Int), i < j ∧ j ≤ N ∧ oi = .int .i64 i ∧ oj = .int .i64 j ∧ Hid (Kept P xs ys i j) ∧ Hid (IntB wr g o ys) ∧ Hid (Chg [g] w wr)) (fun _ oj _ => N - (intOf oj).toNat)
    case atStart =>
      have hbb : Below w.heap.size w (pls w X m) := belA
      exact ⟨k, k + 1, xs, by omega, by omega, rfl, by go_num, hst, Lib.hid (H.out.below hbb hgw), Lib.hid (Chg.of hbb _)⟩
    case round =>
      obtain ⟨i, j, ys, hij, hjN, rfl, rfl, hK, hO, hC⟩ := hrel
      obtain ⟨W0, rfl⟩ : ∃ x, x = wr := ⟨_, rfl⟩
      have hKl : Hid (ys.length = N) := Lib.hid (by rw [hK.out.1, hN.out])
      by_cases hlt : j < N
      · have hj8 : (j : Int) < (N : Int) := by omega
        have hij8 : (i : Int) < (N : Int) := by omega
        have hiN : i < N := by omega
        obtain ⟨d, hd⟩ : ∃ d, xs[j]? = some d := ⟨xs[j]'(by rw [hN.out]; exact hlt), List.getElem?_eq_getElem _⟩
        have cj := hO.out.cell (hK.out.el hd)
        obtain ⟨di, hdi⟩ : ∃ di, ys[i]? = some di := ⟨ys[i]'(by rw [hKl.out]; exact hiN), List.getElem?_eq_getElem _⟩
        have ci := hO.out.cell hdi
        have fi := hO.out.frozen (o + i)
        have hok : Hid (okI .i64 d) := Lib.hid (by obtain ⟨_, _, _, _, _, hok⟩ := hO.out; exact hok d (List.mem_of_getElem? (hK.out.el hd)))
        have z0 := hO.out.lt
        have HD := Lib.hid hd
        have hmem : Hid (d ∈ xs) := Lib.hid (List.mem_of_getElem? hd)
        clear hd hdi
        cases hp : P d
        · have HP := Lib.hid hp
          clear hp
          go_wp2_with fail
          refine Calls.mono (HF.out _ d hC.out hmem.out) ?_
          rw [HP.out]
          rintro e0 w1 ⟨rfl, hb⟩; obtain ⟨X1, m1, rfl⟩ := plsOf hb; clear hb
          go_wp2_with fail
          go_roundw
          case rel =>
            have hput := Lib.hid (hO.out.set (i := i) (d := d) (by rw [hKl.out]; exact hiN) hok.out)
            have hbp : Below (W0.setCell ⟨g, o + i, none⟩ (.int .i64 d)).heap.size (W0.setCell ⟨g, o + i, none⟩ (.int .i64 d)) (pls (W0.setCell ⟨g, o + i, none⟩ (.int .i64 d)) X1 m1) := bpl (Below.refl _ _) X1 m1
            exact ⟨i + 1, j + 1, ys.set i d, by omega, by omega, by go_num, by go_num, Lib.hid (hK.out.keep hij HD.out HP.out), Lib.hid (hput.out.below hbp (by rw [setCell_size]; exact z0)), Lib.hid ((hC.out.set (by simp) _).trans (Chg.of hbp _))⟩
          case measure => simp [intOf]; omega
        · have HP := Lib.hid hp
          clear hp
          go_wp2_with fail
          refine Calls.mono (HF.out _ d hC.out hmem.out) ?_
          rw [HP.out]
          rintro e0 w1 ⟨rfl, hb⟩; obtain ⟨X1, m1, rfl⟩ := plsOf hb; clear hb
          go_wp2_with fail
          go_roundw
          case rel =>
            have hbp : Below W0.heap.size W0 (pls W0 X1 m1) := bpl (Below.refl _ _) X1 m1
            exact ⟨i, j + 1, ys, by omega, by omega, rfl, by go_num, Lib.hid (hK.out.drop HD.out HP.out), Lib.hid (hO.out.below hbp z0), Lib.hid (hC.out.trans (Chg.of hbp _))⟩
          case measure => simp [intOf]; omega
      · have e : j = N := by omega
        subst e
        obtain ⟨cu, tt, hhp, hsz, _, _⟩ := hO.out
        have hsz' : o + i + (j - i) * (Value.int .i64 0).cells.size ≤ cu.size := by
          have h6 : (Value.int .i64 0).cells.size = 1 := by simp [Value.cells]
          rw [h6, hKl.out] at *
          omega
        obtain ⟨vs, hvl, hcl⟩ := run_clear_flat (P := Tryz.prog) W0 168 2 (.int .i64 0) Tryz.underlying168 Tryz.zeroValue2 (by simp [Value.cells, Value.oneCell']) hhp (o + i) (j - i) (cap - i) hsz'
        have hcut := hO.out.cut (i := i) (by rw [hKl.out]; omega) vs (by rw [hvl, hKl.out]; simp [Value.cells]; omega)
        have HCUT := Lib.hid hcut
        have HVL := Lib.hid hvl
        have hij' : (i : Int) ≤ (j : Int) := by omega
        clear hcut hvl hhp hsz hsz'
        go_wp2_with fail
        have hfl : xs.filter (fun d => !P d) = ys.take i := by
          have := hK.out.2.1
          rw [this, ← hN.out, List.take_length]
        have hli : (ys.take i).length = i := by
          have := hKl.out
          rw [List.length_take]
          omega
        refine bodyPost_ret (v := .slice (some ⟨g, o, none⟩) i cap) (by simp [results, Tryz.results229, go_sem]) rfl ?_
        rw [hfl, hli]
        exact ⟨rfl, HCUT.out, hC.out.trans (setCells_chg g vs W0 (o + i))⟩
theorem IntB.of {B : Nat} {w : World} {g n c : Nat} {L : List Int} (h : AppI B w (.slice (some ⟨g, 0, none⟩) n c) L) : IntB w g 0 L := by
  obtain ⟨⟨h0, h1⟩, hok⟩ := h
  rcases h1 with ⟨hv, _⟩ | ⟨g', c', cur, hv, hB, hh, hc, hm, hs, ht⟩
  · injection hv with e1; cases e1
  · injection hv with e1 e2 e3
    injection e1 with e1
    injection e1 with e1
    subst e1
    rw [List.length_map] at h0
    refine ⟨cur, _, hh, by rw [hs]; omega, fun i d hi => ?_, hok⟩
    have hlt : i < L.length := (List.getElem?_eq_some_iff.1 hi).1
    have h2 : (cur.toList.take (L.length * 1))[i]? = some (.int .i64 d) := by rw [ht, List.getElem?_map, hi]; rfl
    rw [List.getElem?_take_of_lt (by omega)] at h2
    rw [Nat.zero_add]
    simpa using h2
theorem IntB.drop {w : World} {g k : Nat} {L : List Int} (h : IntB w g 0 L) (hk : k ≤ L.length) : IntB w g k (L.drop k) := by
  obtain ⟨cu, t, hh, hs, hel, hok⟩ := h
  refine ⟨cu, t, hh, by rw [List.length_drop]; omega, fun i d hi => ?_, fun d hd => hok d (List.mem_of_mem_drop hd)⟩
  rw [List.getElem?_drop] at hi
  have := hel (k + i) d hi
  rwa [Nat.zero_add] at this
theorem others2_any (w : World) (k n : Nat) (e : Int) (hk : k ≤ n) (hn : n ≤ 5) :
    Calls Tryz.prog 225 #[.agg #[.int .i64 k, .int .i64 n, .int .u32 e]] w fun r w' => ∃ g o c, r = .returned (.slice (some ⟨g, o, none⟩) (n - k : Nat) c) ∧ w.heap.size ≤ g ∧ n - k ≤ c ∧ c ≤ maxLen ∧ IntB w' g o (othI k n) ∧ Below w.heap.size w w' := by
  have hk8 : (k : Int) ≤ (n : Int) := by omega
  go_enter Tryz.func225, Tryz.ntmps225
  go_wp2_with fail
  (refine wp_region_held_drew (S := (fun w' => w'.cell? ⟨w.heap.size, 0, none⟩ = some (.int .i64 k) ∧ w'.cell? ⟨w.heap.size, 1, none⟩ = some (.int .i64 n) ∧ w'.cell? ⟨w.heap.size, 2, none⟩ = some (.int .u32 e))) (by kernel_rfl) ?_ (fun hHeld => ?_); (focus (first | (simp [*, go_sem]; done) | fail)); refine rt 0 (some 3) (v := ?_) rfl rfl ?_ ?_; rotate_left; (focus (intro w' hSw; (try dsimp only at hSw); go_simp; (try with_reducible rfl))); (try simp only [Act.put, nA, nB, nC]); refine rt 1 (some 4) (v := ?_) rfl rfl ?_ ?_; rotate_left; (focus (intro w' hSw; (try dsimp only at hSw); go_simp; (try with_reducible rfl))); (try simp only [Act.put, nA, nB, nC]); refine rt 2 (some 5) (v := ?_) rfl rfl ?_ ?_; rotate_left; (focus (intro w' hSw; (try dsimp only at hSw); go_simp; (try with_reducible rfl))); (try simp only [Act.put, nA, nB, nC]); refine rt 4 (some 7) (v := ?_) rfl rfl ?_ ?_; rotate_left; (focus (intro w' hSw; (try dsimp only at hSw); go_simp; (try with_reducible rfl))); (try simp only [Act.put, nA, nB, nC]); refine rt 5 (some 8) (v := ?_) rfl rfl ?_ ?_; rotate_left; (focus (intro w' hSw; (try dsimp only at hSw); go_simp; (try with_reducible rfl))); (try simp only [Act.put, nA, nB, nC]); refine wpAnyH_ready (rs := [3]) (by kernel_rfl) (by simp) ?_; refine AllReadyH.cons rfl (fun K hK => ?_) AllReadyH.nil; go_simp; (go_at_call 141; refine Calls.mono (first_some _ n (by omega)) ?_; rintro e1 w1 ⟨g, c, rfl, hg, hc1, hc2, hA, hb⟩; have hcc : (k : Int) ≤ (c : Int) := (by omega); have HA := Lib.hid hA; have HB := Lib.hid (show Below w.heap.size w w1 from Below.trans belA (hb.mono (by simp))); have hg' : w.heap.size ≤ g := (by simp at hg; omega); have m0 := bkeep hb hHeld.1; have m1 := bkeep hb hHeld.2.1; have m2 := bkeep hb hHeld.2.2; clear hA hb hg); go_wp2_with fail; refine hK.out _ _ ?_ (fun hHeld => ?_); (focus (first | (simp [*, go_sem]; done) | fail)); clear hK K; (try simp only [Act.put, nA, nB, nC]); refine rt 6 (some 9) (v := ?_) rfl rfl ?_ ?_; rotate_left; (focus (intro w' hSw; (try dsimp only at hSw); go_simp; (try with_reducible rfl))); (try simp only [Act.put, nA, nB, nC]); refine rt 7 (some 2) (v := ?_) rfl rfl ?_ ?_; rotate_left; (focus (intro w' hSw; (try dsimp only at hSw); go_simp; (try with_reducible rfl))); (try simp only [Act.put, nA, nB, nC]); refine wpAnyH_done (by kernel_rfl) ?_ _)
  go_wp2_with fail
  · rename_i hck
    have hnk : n = k := by omega
    subst hnk
    have hnil : othI n n = [] := List.length_eq_zero_iff.1 (by rw [othI_len]; omega)
    refine bodyPost_ret (v := .slice (some ⟨g, 0, none⟩) (n - n : Nat) (c - n)) (by simp [results, Tryz.results225, go_sem, *]) rfl ⟨g, 0, c - n, rfl, hg', by omega, by omega, ?_, HB.out⟩
    rw [hnil]
    obtain ⟨cu, t, hh, hs, _, _⟩ := IntB.of HA.out
    exact ⟨cu, t, hh, by simp, fun i d hi => by simp at hi, fun d hd => by cases hd⟩
  · refine bodyPost_ret (v := .slice (some ⟨g, k, none⟩) (n - k : Nat) (c - k)) (by simp [results, Tryz.results225, go_sem, *]) rfl ⟨g, k, c - k, rfl, hg', by omega, by omega, (IntB.of HA.out).drop (by rw [seqI_len]; exact hk), HB.out⟩
end Go.Proofs.YtekchdgpaemofaaGreat
