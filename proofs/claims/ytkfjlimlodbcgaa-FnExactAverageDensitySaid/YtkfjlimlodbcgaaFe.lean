/- spec.FlagDensities. -/
import Derived.Test.YtkfjlimlodbcgaaFd
import Derived.Test.YtkfjlimlodbcgaaDv
import Derived.Test.YtkfjlimlodbcgaaSb
namespace Go.Proofs.Ytkfjlimlodbcgaa
open Go.ChangeShapes Go.WideShapes Go.RowKit
set_option linter.unusedVariables false
set_option linter.unusedSimpArgs false
attribute [local irreducible] Calls
/-- The flags of a right type: their code and list. -/
theorem afC_len {tn n : Nat} {te : Int} (ht : tn ≤ 3) (htn : tn ≤ n) (hn : n ≤ 5) (h0 : 0 ≤ te) (h1 : te < limN tn) : afC tn te n [] = (if (flagsL tn te n []).length ≤ 64 then 0 else 3) := by
  have hg : grOk tn te = true := by simp [grOk, inB]; omega
  have hs : spOk tn n = true := by simp [spOk, inB]; omega
  unfold afC
  rw [if_pos hg, if_pos (show forbC [] = 0 from rfl), if_pos hs]
  rfl
theorem afL_len {tn n : Nat} {te : Int} (h : afC tn te n [] = 0) : afL tn te n [] = flagsF tn te n [] := by
  unfold afL
  exact if_pos h
theorem own_blF {B : Nat} {w : World} {xs : List Flg} {bl off n cap : Nat} {F : List Nat} (h : Own shFlag B w xs (.slice (some ⟨bl, off, none⟩) n cap) F) (hp : 0 < xs.length) : bl ∈ F := by
  obtain ⟨⟨A, c, hv, _, _, h4⟩, _, _⟩ := h
  rcases h4 with ⟨rfl, _⟩ | ⟨g, cur, t, Fs, e, _, _, hF, _⟩
  · exact absurd hp (Nat.lt_irrefl 0)
  · subst e
    have : bl = g := by simp at hv; exact hv.1.1
    rw [hF, this]
    simp
end Go.Proofs.Ytkfjlimlodbcgaa
