/- impl.ValueIn. -/
import Derived.Test.YtpcjinbbgnmchaaGreatVa
import Derived.Test.YtpcjinbbgnmchaaGreatVr
namespace Go.Proofs.YtpcjinbbgnmchaaGreat
open Go.ChangeShapes Go.WideShapes Go.RowKit
set_option linter.unusedVariables false
set_option linter.unusedSimpArgs false
attribute [local irreducible] Calls
/-- The code and the value. -/
def viD (g : Flg) (t : Trm) : Int × Int := dns g.1.toNat g.2.1.toNat g.2.2 t.1
def viP (tn te s : Int) (T : List Trm) (g : Flg) : Int := if sumOk tn te s T && flV g then (if eq2 g.1 (tyE g) tn te then (if g.2.1 < s then 2 else 0) else 4) else 1
def viC (tn te s : Int) (T : List Trm) (g : Flg) : Int := if viP tn te s T g = 0 then rC (vO (viD g) T) else viP tn te s T g
def viR (tn te s : Int) (T : List Trm) (g : Flg) : Int × Int := if viP tn te s T g = 0 then rD (vO (viD g) T) else (0, 0)
theorem vi_no {tn te s : Int} {T : List Trm} {g : Flg} {c : Int} (h : viP tn te s T g = c) (hc : c ≠ 0) : viC tn te s T g = c ∧ viR tn te s T g = (0, 0) := by
  unfold viC viR
  rw [h, if_neg hc, if_neg hc]
  exact ⟨rfl, rfl⟩
theorem vi_yes {tn te s : Int} {T : List Trm} {g : Flg} (h : viP tn te s T g = 0) : viC tn te s T g = rC (vO (viD g) T) ∧ viR tn te s T g = rD (vO (viD g) T) := by
  unfold viC viR
  rw [h, if_pos rfl, if_pos rfl]
  exact ⟨rfl, rfl⟩
theorem dns_in {k n : Nat} {e : Int} {f : Flg} (hk : k ≤ 3) (hn : n ≤ 5) (h1 : k ≤ f.2.1.toNat) (h2 : f.2.1.toNat ≤ n) : inF (dns k n e f) := by
  obtain ⟨v1, b1, c1, c2⟩ := dns_vl (k := k) (n := n) (e := e) (f := f) hk hn h1 h2
  exact (v1.small c1 (by omega) (by omega)).2
theorem vi_terms {tn te s : Int} {T : List Trm} {g : Flg} (hs : sumOk tn te s T = true) (hv : flV g = true) (hg : g.1 = tn) (hle : s ≤ g.2.1) : (∀ t ∈ T, inF (viD g t) ∧ inF t.2) ∧ ∀ t ∈ T, flV t.1 = true ∧ t.1.1 = g.1 ∧ t.1.2.1 ≤ g.2.1 := by
  have hgv := (flV_iff g).1 hv
  have h2 : ∀ t ∈ T, flV t.1 = true ∧ t.1.1 = g.1 ∧ t.1.2.1 ≤ g.2.1 := fun t ht => by
    have h := okT_iff.1 (sumOk_mem hs ht)
    have hf := fitsB_iff.1 h.2.1
    exact ⟨h.1, by rw [hf.2.1, hg], by rw [hf.1]; exact hle⟩
  refine ⟨fun t ht => ⟨?_, ?_⟩, h2⟩
  · obtain ⟨a1, a2, a3⟩ := h2 t ht
    have a4 := (flV_iff t.1).1 a1
    unfold viD
    exact dns_in (by omega) (by omega) (by omega) (by omega)
  · exact inF_of_ok (okT_iff.1 (sumOk_mem hs ht)).2.2.2.1
end Go.Proofs.YtpcjinbbgnmchaaGreat
