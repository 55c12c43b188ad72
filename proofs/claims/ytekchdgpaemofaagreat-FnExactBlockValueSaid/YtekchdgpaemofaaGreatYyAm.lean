import Derived.Test.YtekchdgpaemofaaGreatYyMt
import Derived.Test.YtekchdgpaemofaaGreatYySl
namespace Go.Proofs.YtekchdgpaemofaaGreat
open Go.ChangeShapes Go.WideShapes Go.ChangeAt Go.RowKit
set_option linter.unusedVariables false
set_option linter.unusedSimpArgs false
attribute [local irreducible] Calls
def SqM (xss : List (List (Int × Int))) : Prop := xss.length ≤ 8 ∧ ∀ xs ∈ xss, xs.length = xss.length ∧ ∀ d ∈ xs, inF d
theorem SqM.of {xss : List (List (Int × Int))} (h : matOk xss = true) : SqM xss := ⟨(matOk_iff h).1, fun xs hx => ⟨((matOk_iff h).2.1 xs hx).1, listOk_in ((matOk_iff h).2.1 xs hx).2⟩⟩
theorem SqM.mat {n : Nat} {E : Nat → Nat → Int × Int} (hn : n ≤ 8) (h : ∀ i, i < n → ∀ j, j < n → inF (E i j)) : SqM (matL n n E) := by
  refine ⟨by rw [matL_len]; exact hn, fun xs hx => ?_⟩
  rw [matL_len]
  simp only [matL, List.mem_map, List.mem_range] at hx
  obtain ⟨i, hi, rfl⟩ := hx
  refine ⟨rowL_len _ _, fun d hd => ?_⟩
  simp only [rowL, List.mem_map, List.mem_range] at hd
  obtain ⟨j, hj, rfl⟩ := hd
  exact h i hi j hj
theorem at2_mat {m n : Nat} (E : Nat → Nat → Int × Int) {i j : Nat} (hi : i < m) (hj : j < n) : at2 (matL m n E) i j = E i j := by
  simp [at2, matL, rowL, List.getElem?_range hi, List.getElem?_range hj]
theorem mat_at {w : World} {xss : List (List (Int × Int))} {A : Option Addr} {cap : Nat} (h : Lst (shL shFr) w xss (.slice A xss.length cap)) (hM : SqM xss) {i j : Nat} (hi : i < xss.length) (hj : j < xss.length) :
    ∃ a1 o1 r1 p1 d1, A = some ⟨a1, o1, none⟩ ∧ xss.length ≤ cap ∧ xss.length ≤ d1 ∧ a1 < w.heap.size ∧ r1 < w.heap.size ∧ inF (at2 xss i j) ∧ w.cell? ⟨a1, o1 + i, none⟩ = some (.slice (some ⟨r1, p1, none⟩) xss.length d1) ∧ w.cell? ⟨r1, p1 + j * 2, none⟩ = some (.int .i64 (at2 xss i j).1) ∧ w.cell? ⟨r1, p1 + j * 2 + 1, none⟩ = some (.int .i64 (at2 xss i j).2) := by
  obtain ⟨A0, cap0, he, hc, hm, hel⟩ := lstFrSS h
  cases he
  obtain ⟨a1, o1, rfl, hel1⟩ := hel (by omega)
  obtain ⟨xs, vi, hd, hL, c0⟩ := hel1 i hi
  obtain ⟨h1, h2⟩ := hM.2 xs (List.mem_of_getElem? hd)
  obtain ⟨A2, cap2, rfl, hc2, hm2, _, hel2⟩ := lstFraction hL
  obtain ⟨r1, p1, rfl, hel3⟩ := hel2 (by omega)
  obtain ⟨d, hd2, hok, e1, e2⟩ := hel3 j (by omega)
  have e3 := at2_eq hd hd2
  rw [h1] at c0 hc2
  exact ⟨a1, o1, r1, p1, cap2, rfl, hc, hc2, World.block_lt_of_cell? _ _ c0, World.block_lt_of_cell? _ _ e1, by rw [e3]; exact h2 d (List.mem_of_getElem? hd2), c0, by rw [e3]; exact e1, by rw [e3]; exact e2⟩
theorem inF_ok {d : Int × Int} (h : inF d) : okFr d := by
  obtain ⟨h1, h2, h3, h4⟩ := h
  simp [okFr, okI, Lit.wf, IntKind.min, IntKind.max, IntKind.signed, IntKind.bits]
  omega
end Go.Proofs.YtekchdgpaemofaaGreat
