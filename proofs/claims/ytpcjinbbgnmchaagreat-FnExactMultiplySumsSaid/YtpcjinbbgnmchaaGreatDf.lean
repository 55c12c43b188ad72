/- slices.DeleteFunc of terms. -/
import Derived.Test.YtpcjinbbgnmchaaGreatCn
import Derived.Test.YtpcjinbbgnmchaaGreatIx
import Derived.Lib.LazyBuf
namespace Go.Proofs.YtpcjinbbgnmchaaGreat
open Go.ChangeShapes Go.WideShapes Go.RowKit
set_option linter.unusedVariables false
set_option linter.unusedSimpArgs false
attribute [local irreducible] Calls
/-- Where the first i elements stand that are kept of the first j. -/
def Kept {α : Type} (P : α → Bool) (xs ys : List α) (i j : Nat) : Prop := ys.length = xs.length ∧ ys.take i = (xs.take j).filter (fun d => !P d) ∧ ys.drop j = xs.drop j
theorem Kept.drop {α : Type} {P : α → Bool} {xs ys : List α} {i j : Nat} (h : Kept P xs ys i j) {d : α} (hd : xs[j]? = some d) (hp : P d = true) : Kept P xs ys i (j + 1) := by
  obtain ⟨h1, h2, h3⟩ := h
  refine ⟨h1, by rw [List.take_add_one, hd, List.filter_append]; simp [hp, h2], ?_⟩
  have := congrArg (List.drop 1) h3
  rwa [List.drop_drop, List.drop_drop] at this
theorem Kept.keep {α : Type} {P : α → Bool} {xs ys : List α} {i j : Nat} (h : Kept P xs ys i j) (hij : i < j) {d : α} (hd : xs[j]? = some d) (hp : P d = false) : Kept P xs (ys.set i d) (i + 1) (j + 1) := by
  obtain ⟨h1, h2, h3⟩ := h
  have hj : j < xs.length := (List.getElem?_eq_some_iff.1 hd).1
  have hi : i < ys.length := by omega
  refine ⟨by rw [List.length_set, h1], ?_, ?_⟩
  · rw [List.take_add_one, List.take_add_one, hd, List.getElem?_set_self hi, List.filter_append, List.take_set_of_le (Nat.le_refl i), h2]
    simp [hp]
  · rw [List.drop_set_of_lt (by omega)]
    have := congrArg (List.drop 1) h3
    rwa [List.drop_drop, List.drop_drop] at this
theorem Kept.el {α : Type} {P : α → Bool} {xs ys : List α} {i j : Nat} (h : Kept P xs ys i j) {d : α} (hd : xs[j]? = some d) : ys[j]? = some d := by
  have := congrArg (fun l => l[0]?) h.2.2
  simpa [List.getElem?_drop, hd] using this
theorem Kept.start {α : Type} {P : α → Bool} {xs : List α} {k : Nat} {d : α} (hd : xs[k]? = some d) (hp : P d = true) (h : ∀ a ∈ xs.take k, P a = false) : Kept P xs xs k (k + 1) := by
  refine ⟨rfl, ?_, rfl⟩
  rw [List.take_add_one, hd, List.filter_append]
  have : (xs.take k).filter (fun d => !P d) = xs.take k := List.filter_eq_self.2 fun a ha => by simp [h a ha]
  simp [hp, this]
def DelRet (B : Nat) (w : World) (L : List shTerm.T) (A : Option Addr) (cap : Nat) (e : Ending) (w' : World) : Prop := ∃ F', e = .returned (.slice A L.length cap) ∧ Own shTerm B w' L (.slice A L.length cap) F' ∧ Below B w w'
theorem first_of {α : Type} (P : α → Bool) (xs : List α) (h : ¬ ∀ a ∈ xs, P a = false) : ∃ (k : Nat) (d : α), xs[k]? = some d ∧ P d = true ∧ ∀ a ∈ xs.take k, P a = false := by
  induction xs with
  | nil => exact absurd (by simp) h
  | cons x xs ih =>
    cases hx : P x
    · obtain ⟨k, d, h1, h2, h3⟩ := ih (fun hh => h (by intro a ha; rcases List.mem_cons.1 ha with rfl | ha; exact hx; exact hh a ha))
      refine ⟨k + 1, d, by simpa using h1, h2, ?_⟩
      intro a ha
      rw [List.take_succ_cons] at ha
      rcases List.mem_cons.1 ha with rfl | ha
      · exact hx
      · exact h3 a ha
    · exact ⟨0, x, rfl, hx, by simp⟩
theorem alloc_setCell' (w : World) (o : Obj) (p : Addr) (v : Value) (h : p.block < w.heap.size) : (w.alloc o).setCell p v = (w.setCell p v).alloc o := by
  simp only [World.alloc, World.setCell]
  congr 1
  apply Array.ext_getElem?
  intro j
  simp only [Array.getElem?_modify, Array.getElem?_push, Array.size_modify]
  by_cases hj : p.block = j
  · subst hj
    rw [if_pos rfl, if_neg (by omega), if_neg (by omega), if_pos rfl]
  · rw [if_neg hj, if_neg hj]
theorem set5 (w : World) (o : Obj) (X : Array Obj) (m g a0 a1 a2 a3 a4 : Nat) (v0 v1 v2 v3 v4 : Value) (h : g < w.heap.size) :
    pls ((((((w.setCell ⟨g, a0, none⟩ v0).setCell ⟨g, a1, none⟩ v1).setCell ⟨g, a2, none⟩ v2).setCell ⟨g, a3, none⟩ v3).setCell ⟨g, a4, none⟩ v4).alloc o) X m = (((((pls (w.alloc o) X m).setCell ⟨g, a0, none⟩ v0).setCell ⟨g, a1, none⟩ v1).setCell ⟨g, a2, none⟩ v2).setCell ⟨g, a3, none⟩ v3).setCell ⟨g, a4, none⟩ v4 := by
  rw [pls_setCell' _ X m ⟨g, a0, none⟩ v0 (by simp; omega), alloc_setCell' _ o ⟨g, a0, none⟩ v0 h,
    pls_setCell' _ X m ⟨g, a1, none⟩ v1 (by simp; omega), alloc_setCell' _ o ⟨g, a1, none⟩ v1 (by simp; omega),
    pls_setCell' _ X m ⟨g, a2, none⟩ v2 (by simp; omega), alloc_setCell' _ o ⟨g, a2, none⟩ v2 (by simp; omega),
    pls_setCell' _ X m ⟨g, a3, none⟩ v3 (by simp; omega), alloc_setCell' _ o ⟨g, a3, none⟩ v3 (by simp; omega),
    pls_setCell' _ X m ⟨g, a4, none⟩ v4 (by simp; omega), alloc_setCell' _ o ⟨g, a4, none⟩ v4 (by simp; omega)]
theorem Own.len0 {s : Sh} {B : Nat} {w : World} {A : Option Addr} {n cap : Nat} {xs : List s.T} {F : List Nat} (h : Own s B w xs (.slice A n cap) F) : n = xs.length := by
  obtain ⟨A', cap', h1, _, _⟩ := h.lst
  have : A = A' ∧ n = xs.length ∧ cap = cap' := by simpa using h1
  exact this.2.1
set_option maxRecDepth 20000 in
set_option maxHeartbeats 2000000 in
theorem delTerm_any (B : Nat) (w : World) (xs : List shTerm.T) (A : Option Addr) (cap : Nat) (F : List Nat) (f : FuncId) (caps : Array Value) (P : shTerm.T → Bool) (h : Own shTerm B w xs (.slice A xs.length cap) F) (hl : xs.length ≤ 1048576) (hBw : B ≤ w.heap.size)
    (eg : ∀ args w, (callFunc f args).run Tryz.prog w = .ok (.enter f args) w)
    (hf : ∀ (W : World) (d : shTerm.T), Below B w W → d ∈ xs → Calls Tryz.prog f (#[.agg #[.int .i64 d.1.1, .int .i64 d.1.2.1, .int .u32 d.1.2.2, .int .i64 d.2.1, .int .i64 d.2.2]] ++ caps) W fun e W' => e = .returned (.bool (P d)) ∧ Below W.heap.size W W') :
    Calls Tryz.prog 134 #[.slice A xs.length cap, .func (.func f) #[] caps] w (DelRet B w (xs.filter fun d => !P d) A cap) := by
  have IX : Hid (∀ W, Below w.heap.size w W → Calls Tryz.prog 173 #[.slice A xs.length cap, .func (.func f) #[] caps] W fun e w' => e = .returned (.int .i64 (idxI P xs)) ∧ Below W.heap.size W w') := Lib.hid fun W hW => idxTerm_any W xs _ f caps P (h.lst.below hW) (Nat.le_trans hl (by decide)) eg (fun W' d hW' hd => hf W' d ((hW.mono hBw).trans (hW'.mono (Nat.le_trans hBw hW.size))) hd)
  by_cases hall : ∀ a ∈ xs, P a = false
  · have hr : Hid (idxI P xs = -1) := Lib.hid (idxI_none hall)
    have hfl : Hid (xs.filter (fun d => !P d) = xs) := Lib.hid (List.filter_eq_self.2 fun a ha => by simp [hall a ha])
    have H := Lib.hid h
    clear hall h hf
    go_enter Tryz.func134, Tryz.ntmps134
    go_wp2_with (first | (go_at_call 173; refine Calls.mono (IX.out _ belA) ?_; rw [hr.out]; rintro e w1 ⟨rfl, hb⟩; obtain ⟨X, m, rfl⟩ := plsOf hb; clear hb))
    refine bodyPost_ret (v := .slice A xs.length cap) (by simp [results, Tryz.results134, go_sem]) rfl ?_
    rw [hfl.out]
    refine ⟨F, rfl, ?_, ?_⟩
    · exact H.out.below (Nat.le_refl _) belA
    · have hb : Below w.heap.size w (pls w X m) := belA
      exact hb.mono hBw
  · obtain ⟨k, d0, hd0, hp0, hbef⟩ : ∃ (k : Nat) (d : shTerm.T), xs[k]? = some d ∧ P d = true ∧ ∀ a ∈ xs.take k, P a = false := first_of P xs hall
    have hr : Hid (idxI P xs = (k : Int)) := Lib.hid (idxI_at hbef hd0 hp0)
    have hk0 : k < xs.length := (List.getElem?_eq_some_iff.1 hd0).1
    have hst : Hid (Kept P xs xs k (k + 1)) := Lib.hid (Kept.start hd0 hp0 hbef)
    obtain ⟨g, cap', cu, tt, hv, hFg, hBg, hcp, hmx, hhp, hszz, _, _⟩ := own_cells flatTerm (fun d => rfl) h (by omega)
    injection hv with e1 e2 e3
    subst e1; subst e3; subst hFg
    have hgw := blklt hhp
    have H := Lib.hid h
    have HF := Lib.hid hf
    obtain ⟨N, hN⟩ : ∃ N : Nat, Hid (xs.length = N) := ⟨_, Lib.hid rfl⟩
    rw [hN.out] at IX hk0 hl hcp
    rw [hN.out]
    clear hall h hf hd0 hp0 hbef e2 hhp hszz
    have hk1 : ((k : Int) == -1) = false := by simp
    go_enter Tryz.func134, Tryz.ntmps134
    go_wp2_with (first | (go_at_call 173; refine Calls.mono (IX.out _ belA) ?_; rw [hr.out]; rintro e w1 ⟨rfl, hb⟩; obtain ⟨X, m, rfl⟩ := plsOf hb; clear hb))
    go_loopw [5, 6] (fun oi oj wr => ∃ (i j : Nat) (ys : List shTerm.T), i < j ∧ j ≤ N ∧ oi = .int .i64 i ∧ oj = .int .i64 j ∧ Hid (Kept P xs ys i j) ∧ Hid (Own shTerm B wr ys (.slice (some ⟨g, 0, none⟩) N cap) [g]) ∧ Hid (Below B w wr)) (fun _ oj _ => N - (intOf oj).toNat)
    case atStart => 
      have hb : Below w.heap.size w (pls w X m) := belA
      exact ⟨k, k + 1, xs, by omega, by omega, rfl, by go_num, hst, Lib.hid (by have := H.out.below (Nat.le_refl _) hb; rw [hN.out] at this; exact this), Lib.hid (hb.mono hBw)⟩
    case round =>
      obtain ⟨i, j, ys, hij, hjN, rfl, rfl, hK, hO, hB⟩ := hrel
      obtain ⟨W0, rfl⟩ : ∃ x, x = wr := ⟨_, rfl⟩
      by_cases hlt : j < N
      · have hj8 : (j : Int) < (N : Int) := by omega
        have hij8 : (i : Int) < (N : Int) := by omega
        have hiN : i < N := by omega
        obtain ⟨d, hd⟩ : ∃ d, xs[j]? = some d := ⟨xs[j]'(by rw [hN.out]; exact hlt), List.getElem?_eq_getElem _⟩
        have hKl : ys.length = N := by rw [hK.out.1, hN.out]
        obtain ⟨Al, capl, hv, _, _, hoks, hel⟩ := lstTerm hO.out.lst
        injection hv with e1 e2 e3
        obtain ⟨bl, off, e4, hel⟩ := hel (by omega)
        rw [← e1] at e4
        injection e4 with e4
        injection e4 with e4 e5
        subst e4; subst e5
        obtain ⟨d', hd', hok, c0, c1, c2, c3, c4⟩ := hel j (by omega)
        have : d' = d := Option.some.inj (hd'.symm.trans (hK.out.el hd))
        subst this
        obtain ⟨di, _, _, q0, q1, q2, q3, q4⟩ := hel i (by omega)
        obtain ⟨g', cap', cu, tt, hv, _, _, _, _, hhp, _, _, _⟩ := own_cells flatTerm (fun d => rfl) hO.out (by omega)
        injection hv with e6 e7 e8
        injection e6 with e6
        injection e6 with e6
        subst e6
        have z0 := blklt hhp
        have r0 : W0.frozen? ⟨g, i * 5, none⟩ = false := by simp [World.frozen?, hhp]
        have r1 : W0.frozen? ⟨g, i * 5 + 1, none⟩ = false := by simp [World.frozen?, hhp]
        have r2 : W0.frozen? ⟨g, i * 5 + 2, none⟩ = false := by simp [World.frozen?, hhp]
        have r3 : W0.frozen? ⟨g, i * 5 + 3, none⟩ = false := by simp [World.frozen?, hhp]
        have r4 : W0.frozen? ⟨g, i * 5 + 4, none⟩ = false := by simp [World.frozen?, hhp]
        clear hel hoks e1 e2 e3 hhp e7 e8
        simp only [Nat.zero_add] at c0 c1 c2 c3 c4 q0 q1 q2 q3 q4
        have HD := Lib.hid hd
        have HOK := Lib.hid hok
        have hmem : Hid (d' ∈ xs) := Lib.hid (List.mem_of_getElem? hd)
        clear hd hd' hok hKl
        have hW : Below W0.heap.size W0 (W0.alloc (.cells #[.int .i64 d'.1.1, .int .i64 d'.1.2.1, .int .u32 d'.1.2.2, .int .i64 d'.2.1, .int .i64 d'.2.2] 84)) := belA
        have hBW : B ≤ W0.heap.size := by have := hB.out.size; omega
        have HW : Hid (Below B w (W0.alloc (.cells #[.int .i64 d'.1.1, .int .i64 d'.1.2.1, .int .u32 d'.1.2.2, .int .i64 d'.2.1, .int .i64 d'.2.2] 84))) := Lib.hid (hB.out.trans (hW.mono hBW))
        have hWh := Lib.hid hW
        clear hW
        cases hp : P d'
        · have HP := Lib.hid hp
          clear hp
          go_wp2_with fail
          refine Calls.mono (HF.out _ d' HW.out hmem.out) ?_
          rw [HP.out]
          rintro e0 w1 ⟨rfl, hb⟩; obtain ⟨X1, m1, rfl⟩ := plsOf hb; clear hb
          go_wp2_with fail
          have hb : Below W0.heap.size W0 (pls (W0.alloc (.cells #[.int .i64 d'.1.1, .int .i64 d'.1.2.1, .int .u32 d'.1.2.2, .int .i64 d'.2.1, .int .i64 d'.2.2] 84)) X1 m1) := belA
          have hO2 := hO.out.below (Nat.le_refl _) hb
          have hput := own_put flatTerm (fun d => rfl) hO2 (i := i) (d := d') (by rw [hK.out.1, hN.out]; exact hiN) HOK.out
          have hbp := below_setCells hBg (encTerm d') (i * 5) _ (hB.out.trans (hb.mono hBW))
          replace hput : Own shTerm B _ (ys.set i d') (.slice (some ⟨g, 0, none⟩) N cap) [g] := hput
          rw [show i * shTerm.sz = i * 5 from rfl] at hput
          simp only [encTerm, World.setCells, Nat.add_assoc, Nat.reduceAdd] at hput hbp
          have HPUT := Lib.hid hput
          have HBP := Lib.hid hbp
          clear hput hO2 hbp
          go_roundw
          case rel =>
            rw [set5 _ _ _ _ _ _ _ _ _ _ _ _ _ _ _ z0]
            exact ⟨i + 1, j + 1, ys.set i d', by omega, by omega, by go_num, by go_num, Lib.hid (hK.out.keep hij HD.out HP.out), HPUT, HBP⟩
          case measure => simp [intOf]; omega
        · have HP := Lib.hid hp
          clear hp
          go_wp2_with fail
          refine Calls.mono (HF.out _ d' HW.out hmem.out) ?_
          rw [HP.out]
          rintro e0 w1 ⟨rfl, hb⟩; obtain ⟨X1, m1, rfl⟩ := plsOf hb; clear hb
          go_wp2_with fail
          go_roundw
          case rel =>
            have hb : Below W0.heap.size W0 (pls (W0.alloc (.cells #[.int .i64 d'.1.1, .int .i64 d'.1.2.1, .int .u32 d'.1.2.2, .int .i64 d'.2.1, .int .i64 d'.2.2] 84)) X1 m1) := belA
            exact ⟨i, j + 1, ys, by omega, by omega, rfl, by go_num, Lib.hid (hK.out.drop HD.out HP.out), Lib.hid (hO.out.below (Nat.le_refl _) hb), Lib.hid (hB.out.trans (hb.mono hBW))⟩
          case measure => simp [intOf]; omega
      · have e : j = N := by omega
        subst e
        have hKl : ys.length = j := by rw [hK.out.1, hN.out]
        obtain ⟨g', cap', cu, tt, hv, hFg, _, _, _, hhp, hszz, _, _⟩ := own_cells flatTerm (fun d => rfl) hO.out (by omega)
        injection hv with e1 e2 e3
        injection e1 with e1
        injection e1 with e1
        subst e1
        clear e2 e3
        have hroom : i * 5 + (j - i) * (Value.agg #[.int .i64 0, .int .i64 0, .int .u32 0, .int .i64 0, .int .i64 0]).cells.size ≤ cu.size := by
          have h5 : ys.length * 5 ≤ cu.size := hszz
          rw [hKl] at h5
          have h6 : (Value.agg #[.int .i64 0, .int .i64 0, .int .u32 0, .int .i64 0, .int .i64 0]).cells.size = 5 := by simp [Value.cells]
          rw [h6]
          omega
        obtain ⟨vs, hvl, hcl⟩ := run_clear_flat (P := Tryz.prog) W0 32 84 (.agg #[.int .i64 0, .int .i64 0, .int .u32 0, .int .i64 0, .int .i64 0]) Tryz.underlying32 Tryz.zeroValue84 (by simp [Value.cells, Value.oneCell']) hhp (i * 5) (j - i) (cap - i) hroom
        have hcut := own_cut flatTerm (fun d => rfl) hO.out (by omega) (i := i) (by omega) vs (by rw [hvl, hKl]; show i * 5 + (j - i) * 5 ≤ j * 5; omega)
        have HCUT := Lib.hid hcut
        have HVL := Lib.hid hvl
        have HCL := Lib.hid hcl
        have hij' : (i : Int) ≤ (j : Int) := by omega
        clear hcut hvl hhp hszz hroom hKl
        go_wp2_with fail
        refine bodyPost_ret (v := .slice (some ⟨g, 0, none⟩) i cap) (by simp [results, Tryz.results134, go_sem]) rfl ?_
        have hfl : xs.filter (fun d => !P d) = ys.take i := by
          have := hK.out.2.1
          rw [this, ← hN.out, List.take_length]
        have hli : List.length (α := shTerm.T) (ys.take i) = i := by
          have := hK.out.1
          have := hN.out
          rw [List.length_take]
          omega
        rw [hfl]
        exact ⟨[g], by rw [hli], by rw [hli]; exact HCUT.out, below_setCells hBg _ _ _ hB.out⟩
end Go.Proofs.YtpcjinbbgnmchaaGreat
