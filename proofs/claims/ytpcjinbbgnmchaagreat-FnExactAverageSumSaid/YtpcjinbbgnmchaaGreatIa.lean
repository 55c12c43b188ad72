/- A term is put into a list of terms: slices.Insert. -/
import Derived.Test.YtpcjinbbgnmchaaGreatBw
import Derived.Lib.Overlaps
import Derived.Lib.AppendZerosOnto
import Derived.Laws.IdiomCopy
namespace Go.Proofs.YtpcjinbbgnmchaaGreat
open Go.ChangeShapes Go.WideShapes Go.RowKit
set_option linter.unusedVariables false
set_option linter.unusedSimpArgs false
attribute [local irreducible] Calls
theorem bsetCells {B : Nat} {a : World} {b : Nat} (hb : B ≤ b) : ∀ (vs : List Value) (o : Nat) {w : World}, Below B a w → Below B a (w.setCells b o vs)
  | [], _, _, h => h
  | v :: r, o, w, h => bsetCells hb r (o + 1) (Below.setCell h (by show B ≤ b; exact hb) _)
theorem setCells_other {b q : Nat} (hq : q ≠ b) : ∀ (vs : List Value) (o : Nat) (w : World), (w.setCells b o vs).heap[q]? = w.heap[q]?
  | [], _, _ => rfl
  | v :: r, o, w => (setCells_other hq r (o + 1) _).trans (Below.heap_setCell _ ⟨b, o, none⟩ _ q hq)
theorem setCells_sz {b : Nat} : ∀ (vs : List Value) (o : Nat) (w : World), (w.setCells b o vs).heap.size = w.heap.size
  | [], _, _ => rfl
  | v :: r, o, w => (setCells_sz r (o + 1) _).trans (by simp [World.setCell])
set_option maxRecDepth 100000 in
theorem run_copy_terms (w : World) {g o dLen dCap b o' sLen sCap c : Nat} {cur : Array Value} {t : TypeId} {M : List Trm} (hM : Lst shTerm w M (.slice (some ⟨b, o', none⟩) M.length c)) (hp : 0 < M.length) (hd : Nat.min sLen dLen = M.length) (hg : w.heap[g]? = some (.cells cur t (0, 0))) (hs : o + M.length * 5 ≤ cur.size) (ty : TypeId) :
    (Builtin.copy_ #[32, 32] ty #[.slice (some ⟨g, o, none⟩) dLen dCap, .slice (some ⟨b, o', none⟩) sLen sCap]).run Tryz.prog w = .ok (goInt M.length) (w.setCells g o (M.flatMap encTerm)) := by
  obtain ⟨i1, zv1, hi1, hz1, hs1, hb1, hl1⟩ := infoB_spec (P := Tryz.prog) (e := 84) (sz := 5) (bytes := 40) (by kernel_rfl)
  obtain ⟨b2, o2, cap, he, _, hn⟩ := lst_news flatTerm (fun d => rfl) hM hp
  injection he with e1 e2 e3
  injection e1 with e1
  rw [← e1] at hn
  have hlen : (M.flatMap encTerm).length = M.length * 5 := flatMap_len (n := 5) (fun d => rfl) M
  have hl := run_loadCells_list (P := Tryz.prog) w ⟨b, o', none⟩ (M.flatMap encTerm) hn
  rw [hlen] at hl
  have hst := run_storeCells_cells (P := Tryz.prog) g o (M.flatMap encTerm) 0 w (by
    intro j hj
    rw [hlen] at hj
    simp only [World.cell?, hg, Nat.add_zero]
    rw [Array.getElem?_eq_getElem (by omega)]
    rfl) (by intro j _; simp [World.frozen?, hg]) (by simp [Value.oneCell']; grind)
  simp only [Nat.add_zero] at hst
  simp [Builtin.copy_, run_underlying Tryz.underlying32, Builtin.lenOf, Builtin.firstCells, sizeOf, typeInfo, hi1, hs1, hd, hl, hst]
theorem step_copy_t {ops : Array Oper} {o : Oper} {a : Act} {w : World} {K : Act → World → Prop} {Q : Exit → Act → World → Prop} {E : Prop}
    (hg : o.guard = none) (d x : Operand) (dT sT : TypeId) (hop : o.op = Op.call { callee := Callee.builtin Builtin.copy, args := #[d, x], argTypes := #[dT, sT] })
    (v u : Value) (hd : a.eval d = v) (hx : a.eval x = u) {v' : Value} {w' : World} (hr : (Builtin.copy_ #[dT, sT] o.type #[v, u]).run Tryz.prog w = .ok v' w') (hK : K (a.put o.dst v') w') :
    if Region.wanted o (yielded ops a.tmps) = true then Oper.wp Tryz.prog o a w K Q else E := by
  have hw : Region.wanted o (yielded ops a.tmps) = true := by simp [Region.wanted, hg]
  rw [if_pos hw]
  unfold Oper.wp
  simp [execOp, hop, resolve, invoke, builtin, hd, hx, hr, Result.andThen]
  exact hK
theorem wp_copy_t (w : World) {o : Oper} {a : Act} {K : Act → World → Prop} {Q : Exit → Act → World → Prop} (d s : Operand) (t t' : TypeId)
    (ho : o.op = .call { callee := .builtin .copy, args := #[d, s], argTypes := #[t, t'] }) (v u : Value) (hd : a.eval d = v) (hs : a.eval s = u) {v' : Value} {w' : World}
    (hr : (Builtin.copy_ #[t, t'] o.type #[v, u]).run Tryz.prog w = .ok v' w') (h : K (a.put o.dst v') w') : o.wp Tryz.prog a w K Q := by
  unfold Oper.wp execOp
  simp only [ho, resolve, invoke, builtin, Sem.run_bind, Sem.run_pure, Result.andThen_ok, List.map_toArray, List.map_cons, List.map_nil, hd, hs, hr]
  exact h
theorem wpList_copy_t (w : World) {ops : Array Oper} {rest : List Oper} {o : Oper} {a : Act} {Q : Exit → Act → World → Prop} (hgd : o.guard = none) (d s : Operand) (t t' : TypeId)
    (ho : o.op = .call { callee := .builtin .copy, args := #[d, s], argTypes := #[t, t'] }) (v u : Value) (hd : a.eval d = v) (hs : a.eval s = u) {v' : Value} {w' : World}
    (hr : (Builtin.copy_ #[t, t'] o.type #[v, u]).run Tryz.prog w = .ok v' w') (h : wpList Tryz.prog ops Q rest (a.put o.dst v') w') : wpList Tryz.prog ops Q (o :: rest) a w :=
  wpList_plain hgd fun _ hK => wp_copy_t w d s t t' ho v u hd hs hr (hK _ _ h)
theorem wp_app_t (w : World) {o : Oper} {a : Act} {K : Act → World → Prop} {Q : Exit → Act → World → Prop} (d s : Operand) (t t' : TypeId)
    (ho : o.op = .call { callee := .builtin .append, args := #[d, s], argTypes := #[t, t'] }) (v u : Value) (hd : a.eval d = v) (hs : a.eval s = u) {v' : Value} {w' : World}
    (hr : (Builtin.append_ #[t, t'] o.type #[v, u]).run Tryz.prog w = .ok v' w') (h : K (a.put o.dst v') w') : o.wp Tryz.prog a w K Q := by
  unfold Oper.wp execOp
  simp only [ho, resolve, invoke, builtin, Sem.run_bind, Sem.run_pure, Result.andThen_ok, List.map_toArray, List.map_cons, List.map_nil, hd, hs, hr]
  exact h
theorem wpList_app_t (w : World) {ops : Array Oper} {rest : List Oper} {o : Oper} {a : Act} {Q : Exit → Act → World → Prop} (hgd : o.guard = none) (d s : Operand) (t t' : TypeId)
    (ho : o.op = .call { callee := .builtin .append, args := #[d, s], argTypes := #[t, t'] }) (v u : Value) (hd : a.eval d = v) (hs : a.eval s = u) {v' : Value} {w' : World}
    (hr : (Builtin.append_ #[t, t'] o.type #[v, u]).run Tryz.prog w = .ok v' w') (h : wpList Tryz.prog ops Q rest (a.put o.dst v') w') : wpList Tryz.prog ops Q (o :: rest) a w :=
  wpList_plain hgd fun _ hK => wp_app_t w d s t t' ho v u hd hs hr (hK _ _ h)
/-- A row that holds what stood ahead of a place, a term, and what stood from there on. -/
theorem take_ins {cur : Array Value} {L : List Trm} {k : Nat} {d : Trm} (hk : k ≤ L.length) (h1 : ∀ q, q < k * 5 → cur[q]? = (L.flatMap encTerm)[q]?) (h2 : ∀ q, q < 5 → cur[k * 5 + q]? = (encTerm d)[q]?) (h3 : ∀ q, q < (L.length - k) * 5 → cur[(k + 1) * 5 + q]? = ((L.drop k).flatMap encTerm)[q]?) :
    cur.toList.take ((L.length + 1) * 5) = (insT k L d).flatMap encTerm := by
  have hl : ∀ M : List Trm, (M.flatMap encTerm).length = M.length * 5 := fun M => flatMap_len (n := 5) (fun d => rfl) M
  have hlt : (L.take k).length = k := by rw [List.length_take]; omega
  have hld : (L.drop k).length = L.length - k := List.length_drop
  have hL : L.flatMap encTerm = (L.take k).flatMap encTerm ++ (L.drop k).flatMap encTerm := by rw [← List.flatMap_append, List.take_append_drop]
  unfold insT
  rw [List.flatMap_append, List.flatMap_cons]
  apply List.ext_getElem?
  intro q
  rw [List.getElem?_take, Array.getElem?_toList]
  by_cases c1 : q < k * 5
  · rw [if_pos (by omega), h1 q c1, hL, List.getElem?_append_left (by rw [hl, hlt]; exact c1), List.getElem?_append_left (by rw [hl, hlt]; exact c1)]
  rw [List.getElem?_append_right (by rw [hl, hlt]; omega), hl, hlt]
  by_cases c2 : q < k * 5 + 5
  · have := h2 (q - k * 5) (by omega)
    rw [show k * 5 + (q - k * 5) = q by omega] at this
    rw [if_pos (by omega), this, List.getElem?_append_left (by show _ < 5; omega)]
  rw [List.getElem?_append_right (by show 5 ≤ _; omega)]
  by_cases c3 : q < (L.length + 1) * 5
  · have := h3 (q - (k + 1) * 5) (by omega)
    rw [show (k + 1) * 5 + (q - (k + 1) * 5) = q by omega] at this
    rw [if_pos c3, this]
    congr 1
    show _ = q - k * 5 - 5
    omega
  · rw [if_neg c3, List.getElem?_eq_none (by rw [hl, hld]; show _ ≤ q - k * 5 - 5; omega)]
theorem getElem_drop5 (L : List Trm) {k q : Nat} (hk : k ≤ L.length) : ((L.drop k).flatMap encTerm)[q]? = (L.flatMap encTerm)[k * 5 + q]? := by
  have hl : ∀ M : List Trm, (M.flatMap encTerm).length = M.length * 5 := fun M => flatMap_len (n := 5) (fun d => rfl) M
  have hlt : (L.take k).length = k := by rw [List.length_take]; omega
  have hL : L.flatMap encTerm = (L.take k).flatMap encTerm ++ (L.drop k).flatMap encTerm := by rw [← List.flatMap_append, List.take_append_drop]
  rw [hL, List.getElem?_append_right (by rw [hl, hlt]; omega), hl, hlt, show k * 5 + q - k * 5 = q by omega]
end Go.Proofs.YtpcjinbbgnmchaaGreat
