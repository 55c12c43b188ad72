import Derived.Test.YtekchdgpaemofaaGreatYyDn
import Derived.Test.YtekchdgpaemofaaGreatYyAk
import Derived.Test.YtekchdgpaemofaaGreatYyGo
import Derived.Test.YtekchdgpaemofaaGreatYySl
import Derived.Test.YtekchdgpaemofaaGreatYyFr2
import Derived.Test.YtekchdgpaemofaaGreatYyDt
namespace Go.Proofs.YtekchdgpaemofaaGreat
open Go.ChangeShapes Go.WideShapes Go.RowKit
set_option linter.unusedVariables false
set_option linter.unusedSimpArgs false
attribute [local irreducible] Calls
def ptB (k : Nat) (e : Int) (f : Flg) (L : List Int) : Bool := leastI f.2.1.toNat k (onE e (seqI k ++ L)) == leastF f
theorem chs_oks : ∀ k ≤ 3, ∀ n ≤ 5, ∀ q ≤ 5, (chs (othI k n) q 0 []).all (fun L => decide (L.length = q) && (List.range (k + q)).all fun i => decide (0 ≤ gi (seqI k ++ L) i) && decide (gi (seqI k ++ L) i ≤ 4) && (List.range i).all fun j => decide (gi (seqI k ++ L) j ≠ gi (seqI k ++ L) i)) = true ∧ (chs (othI k n) q 0 []).length ≤ 100 := by decide +kernel
theorem chs_ok {k n q : Nat} (hk : k ≤ 3) (hn : n ≤ 5) (hq : k + q ≤ 5) : ∀ L ∈ chs (othI k n) q 0 [], VL (seqI k ++ L) ∧ L.length = q := by
  intro L hL
  have h := (chs_oks k hk n hn q (by omega)).1
  rw [List.all_eq_true] at h
  have h1 := h L hL
  simp only [Bool.and_eq_true, decide_eq_true_eq, List.all_eq_true, List.mem_range] at h1
  obtain ⟨h2, h3⟩ := h1
  have hl : (seqI k ++ L).length = k + q := by rw [List.length_append, seqI_len, h2]
  refine ⟨⟨by omega, fun i hi => ?_, fun i j hij hj => ?_⟩, h2⟩
  · have := h3 i (by omega); exact this.1
  · have := h3 j (by omega); exact this.2 i hij
def dnC (k n m : Nat) : Int := chI ((n - k : Nat) : Int) (m - k)
theorem dnC_bd {k n m : Nat} (hkm : k ≤ m) (hmn : m ≤ n) (hn : n ≤ 5) : 1 ≤ dnC k n m ∧ dnC k n m ≤ 10 := by
  have h : ∀ n ≤ 5, ∀ i ≤ n, 1 ≤ chI ((n : Nat) : Int) i ∧ chI ((n : Nat) : Int) i ≤ 10 := by decide
  exact h (n - k) (by omega) (m - k) (by omega)
end Go.Proofs.YtekchdgpaemofaaGreat

namespace Go.Proofs.YtekchdgpaemofaaGreat
open Go.ChangeShapes Go.WideShapes Go.RowKit
set_option linter.unusedVariables false
set_option linter.unusedSimpArgs false
attribute [local irreducible] Calls
theorem Own.one {s : Sh} {enc : s.T → List Value} {ok : s.T → Prop} (hf : Flat s enc ok) {w : World} {g B : Nat} {t : TypeId} {d : s.T} (h : w.heap[g]? = some (.cells (enc d).toArray t (0, 0))) (hok : ok d) (hB : B ≤ g) (hl : (enc d).length = s.sz := by rfl) : Own s B w [d] (.slice (some ⟨g, 0, none⟩) 1 1) [g] := by
  refine ⟨⟨_, 1, rfl, Nat.le_refl _, by decide, .inr ⟨g, _, t, [[]], rfl, h, by simp [hl], rfl, rfl, fun i d' hi => ?_⟩⟩, by simp, by simpa using hB⟩
  have : i = 0 := by
    have := (List.getElem?_eq_some_iff.1 hi).1
    simp at this; exact this
  subst this
  simp at hi
  subst hi
  refine ⟨[], rfl, (hf.2 _ _ _ _).2 ⟨⟨?_, hok⟩, rfl⟩⟩
  simp [← hl]
theorem l03Least_any' (w : World) (n k : Nat) (e : Int) (hn : n ≤ 5) (hk : k ≤ n) (he : okI .u32 e) :
    Calls Tryz.prog 123 #[.agg #[.int .i64 k, .int .i64 n, .int .u32 e]] w fun e0 w' => e0 = .returned (.agg #[.int .i64 k, .int .i64 n, .int .u32 (leastI n k e)]) ∧ Below w.heap.size w w' := by
  rw [← leastS_eq hn hk]
  exact l03Least_any w k (n - k) n e he (by omega) hn (ords_all (by omega)).2.1
end Go.Proofs.YtekchdgpaemofaaGreat

namespace Go.Proofs.YtekchdgpaemofaaGreat
open Go.ChangeShapes Go.WideShapes Go.RowKit
set_option linter.unusedVariables false
set_option linter.unusedSimpArgs false
attribute [local irreducible] Calls
theorem sets_perm : ∀ k ≤ 3, ∀ n ≤ 5, ∀ q ≤ 5, (chs (othI k n) q 0 []).isPerm (s4L q k n) = true := by decide +kernel
theorem sets_len : ∀ k ≤ 3, ∀ n ≤ 5, k ≤ n → ∀ q ≤ n - k, ((s4L q k n).length : Int) = chI ((n - k : Nat) : Int) q := by decide +kernel
theorem s4_ok {k n q : Nat} (hk : k ≤ 3) (hn : n ≤ 5) (hq : k + q ≤ 5) : ∀ L ∈ s4L q k n, VL (seqI k ++ L) ∧ L.length = q := fun L hL =>
  chs_ok hk hn hq L ((List.Perm.mem_iff (List.isPerm_iff.1 (sets_perm k hk n hn q (by omega)))).2 hL)
theorem wpList_append_ints (w : World) {B : Nat} {v u : Value} {L M : List Int} (hA : AppI B w v L) (hM : Lst (shI .i64) w M u) (hl : L.length + M.length ≤ 100) (hB : B ≤ w.heap.size) {ops : Array Oper} {rest : List Oper} {o : Oper} {a : Act} {Q : Exit → Act → World → Prop} (hgd : o.guard = none) (s x : Operand)
    (ho : o.op = .call { callee := .builtin .append, args := #[s, x], argTypes := #[168, 168] }) (hs : a.eval s = v) (hx : a.eval x = u)
    (h : ∀ v' w', AppI B w' v' (L ++ M) → Below B w w' → wpList Tryz.prog ops Q rest (a.put o.dst v') w') : wpList Tryz.prog ops Q (o :: rest) a w :=
  wpList_plain hgd fun _ hK => wp_append_ints w hA hM hl hB s x ho hs hx fun v' w' h1 h2 => hK _ _ (h v' w' h1 h2)
set_option maxHeartbeats 1000000 in
theorem l03Part_any (w : World) (k n m : Nat) (e : Int) (L : List Int) (v : Value) (hk : k ≤ 5) (h : Lst (shI .i64) w L v) (hV : VL (seqI k ++ L)) (hm : k + L.length = m) :
    Calls Tryz.prog 206 #[.agg #[.int .i64 k, .int .i64 n, .int .u32 e], v] w fun r w' => r = .returned (.agg #[.int .i64 k, .int .i64 m, .int .u32 (leastI m k (onE e (seqI k ++ L)))]) ∧ Below w.heap.size w w' := by
  have hlen : (seqI k ++ L).length = m := by rw [List.length_append, seqI_len]; exact hm
  have hl5 : m ≤ 5 := by rw [← hlen]; exact hV.1
  have hkm : k ≤ m := by omega
  have H := Lib.hid h
  have HV := Lib.hid hV
  have HL := Lib.hid hlen
  have hLl : L.length ≤ 5 := by omega
  have hok := Lib.hid (onE_ok e (seqI k ++ L))
  obtain ⟨A, cap, rfl, _, _⟩ := lstI h
  clear h hV hlen
  go_enter Tryz.func206, Tryz.ntmps206
  go_wp2_with fail
  refine Calls.mono (l01First_any _ k (by omega)) ?_
  rintro e1 w1 ⟨v1, rfl, hA, hb⟩
  have hb1 : Below w.heap.size w w1 := Below.trans belA (hb.mono (by simp <;> omega))
  have k0 : w1.heap[w.heap.size]? = some (.cells #[.int .i64 k, .int .i64 n, .int .u32 e] 104 (0, 0)) := bblk hb (by simp <;> omega) blkA
  have k1 : w1.heap[w.heap.size + 1]? = some (.cells #[.int .i64 0, .int .i64 0, .int .u32 0] 104 (0, 0)) := bblk hb (by simp) blkA
  have HA := Lib.hid (show AppI (w.heap.size + 1 + 1) w1 v1 (seqI k) from hA.mono (by simp))
  have hz1 : w.heap.size + 1 + 1 ≤ w1.heap.size := by have := hb.size; simp at this; omega
  have HB1 := Lib.hid hb1
  have K0 := Lib.hid k0
  have K1 := Lib.hid k1
  clear hA hb hb1 k0 k1
  go_wp2_with (at_builtin; refine wpList_append_ints _ HA.out (H.out.below HB1.out) (by rw [seqI_len]; omega) (by omega) rfl (.tmp 8) (.tmp 9) rfl rfl rfl ?_; intro v2 w2 hA2 hb2; have HA2 := Lib.hid hA2; have HB2 := Lib.hid hb2; clear hA2 hb2)
  have k02 : w2.heap[w.heap.size]? = some (.cells #[.int .i64 k, .int .i64 n, .int .u32 e] 104 (0, 0)) := (HB2.out.block _ (by omega)).trans K0.out
  have k12 : w2.heap[w.heap.size + 1]? = some (.cells #[.int .i64 0, .int .i64 0, .int .u32 0] 104 (0, 0)) := (HB2.out.block _ (by omega)).trans K1.out
  obtain ⟨q0, q1, q2⟩ := blkc3 k02
  have HBW := Lib.hid (HB1.out.trans (HB2.out.mono (by omega)))
  have y0 := blklt k02
  have y1 := blklt k12
  have K12 := Lib.hid k12
  clear k02 k12
  go_wp2_with fail
  (refine wp_region_held_drew (S := (fun w' => w'.cell? ⟨w.heap.size, 0, none⟩ = some (.int .i64 k) ∧ w'.cell? ⟨w.heap.size, 1, none⟩ = some (.int .i64 n) ∧ w'.cell? ⟨w.heap.size, 2, none⟩ = some (.int .u32 e))) (by kernel_rfl) ?_ (fun hHeld => ?_); (focus (first | (simp [*, go_sem]; done) | fail)); refine rt 0 (some 11) (v := ?_) rfl rfl ?_ ?_; rotate_left; (focus (intro w' hSw; (try dsimp only at hSw); go_simp; (try with_reducible rfl))); (try simp only [Act.put, nA, nB, nC]); refine rt 1 (some 12) (v := ?_) rfl rfl ?_ ?_; rotate_left; (focus (intro w' hSw; (try dsimp only at hSw); go_simp; (try with_reducible rfl))); (try simp only [Act.put, nA, nB, nC]); refine rt 2 (some 13) (v := ?_) rfl rfl ?_ ?_; rotate_left; (focus (intro w' hSw; (try dsimp only at hSw); go_simp; (try with_reducible rfl))); (try simp only [Act.put, nA, nB, nC]); refine rt 3 (some 14) (v := ?_) rfl rfl ?_ ?_; rotate_left; (focus (intro w' hSw; (try dsimp only at hSw); go_simp; (try with_reducible rfl))); (try simp only [Act.put, nA, nB, nC]); refine rt 4 (some 15) (v := ?_) rfl rfl ?_ ?_; rotate_left; (focus (intro w' hSw; (try dsimp only at hSw); go_simp; (try with_reducible rfl))); (try simp only [Act.put, nA, nB, nC]); refine wpAnyH_ready (rs := [5]) (by kernel_rfl) (by simp) ?_; refine AllReadyH.cons rfl (fun K hK => ?_) AllReadyH.nil; go_simp; (go_at_call 121; refine Calls.mono (l01On_any _ n e (seqI k ++ L) _ (HA2.out.lst.below belA) HV.out) ?_; rw [HL.out]; rintro e0 w3 ⟨rfl, hb⟩; have m0 := bkeep hb hHeld.1; have m1 := bkeep hb hHeld.2.1; have m2 := bkeep hb hHeld.2.2; have K13 := Lib.hid ((hb.block (w.heap.size + 1) (by simpa using y1)).trans K12.out); have HB3 := Lib.hid (show Below w2.heap.size w2 w3 from Below.trans belA (hb.mono (by simp))); clear hb); go_wp2_with fail; refine hK.out _ _ ?_ (fun hHeld => ?_); (focus (first | (simp [*, go_sem]; done) | fail)); clear hK K; (try simp only [Act.put, nA, nB, nC]); refine rt 6 (some 17) (v := ?_) rfl rfl ?_ ?_; rotate_left; (focus (intro w' hSw; (try dsimp only at hSw); go_simp; (try with_reducible rfl))); (try simp only [Act.put, nA, nB, nC]); refine wpAnyH_ready (rs := [7]) (by kernel_rfl) (by simp) ?_; refine AllReadyH.cons rfl (fun K hK => ?_) AllReadyH.nil; go_simp; (go_at_call 123; refine Calls.mono (l03Least_any' _ m k (onE e (seqI k ++ L)) hl5 hkm hok.out) ?_; rintro e0 w4 ⟨rfl, hb⟩; have n0 := bkeep hb m0; have n1 := bkeep hb m1; have n2 := bkeep hb m2; have k14 := (hb.block _ (blklt K13.out)).trans K13.out; obtain ⟨r0, r1, r2⟩ := blkc3 k14; have f0 : w4.frozen? ⟨w.heap.size + 1, 0, none⟩ = false := (by simp [World.frozen?, k14]); have f1 : w4.frozen? ⟨w.heap.size + 1, 1, none⟩ = false := (by simp [World.frozen?, k14]); have f2 : w4.frozen? ⟨w.heap.size + 1, 2, none⟩ = false := (by simp [World.frozen?, k14]); have yr := blklt k14; have HB4 := Lib.hid (HBW.out.trans ((HB3.out.trans (hb.mono HB3.out.size)).mono HBW.out.size)); clear hb k14); go_wp2_with fail; refine hK.out _ _ ?_ (fun hHeld => ?_); (focus (first | (simp [*, go_sem]; done) | fail)); clear hK K; (try simp only [Act.put, nA, nB, nC]); refine wpAnyH_ready (rs := [8]) (by kernel_rfl) (by simp) ?_; refine AllReadyH.cons rfl (fun K hK => ?_) AllReadyH.nil; (try go_simp); refine hK.out _ _ ?_ (fun hHeld => ?_); (focus (first | (simp [*, go_sem]; done) | fail)); clear hK K; (try simp only [Act.put, nA, nB, nC]); refine wpAnyH_done (by kernel_rfl) ?_ _)
  clear hHeld
  have hb4 := HB4.out
  go_wp2_with fail
  exact bodyPost_ret (v := .agg #[.int .i64 k, .int .i64 m, .int .u32 (leastI m k (onE e (seqI k ++ L)))]) (by simp [results, Tryz.results206, go_sem, *]) rfl ⟨rfl, belA⟩
theorem eq3_k (k m a b : Int) : eq3 k m a k m b = (a == b) := by rw [Bool.eq_iff_iff]; simp [eq3]
end Go.Proofs.YtekchdgpaemofaaGreat
