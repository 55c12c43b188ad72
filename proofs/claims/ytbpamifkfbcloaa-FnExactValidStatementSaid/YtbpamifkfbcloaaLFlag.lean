/- What a slice of Flag holds. -/
import Derived.Test.YtbpamifkfbcloaaSl
namespace Go.Proofs.Ytbpamifkfbcloaa
open Go.RowKit
/-- What a slice of these holds: its cells. -/
theorem lstFlag {w : World} {xs : List (Int × (Int × Int))} {v : Value} (h : Lst shFlag w xs v) : ∃ (A : Option Addr) (cap : Nat), v = .slice A xs.length cap ∧ xs.length ≤ cap ∧ cap ≤ maxLen ∧ (∀ d ∈ xs, okFlag d) ∧
    (0 < xs.length → ∃ (bl off : Nat), A = some ⟨bl, off, none⟩ ∧ ∀ i, i < xs.length → ∃ d : Int × (Int × Int), xs[i]? = some d ∧ okFlag d ∧ w.cell? ⟨bl, off + i * 3, none⟩ = some (.int .i64 d.1) ∧ w.cell? ⟨bl, off + i * 3 + 1, none⟩ = some (.int .i64 d.2.1) ∧ w.cell? ⟨bl, off + i * 3 + 2, none⟩ = some (.int .u32 d.2.2)) := by
  have hoks := oks_of flatFlag h
  obtain ⟨A, cap, e, hc, hm, hel⟩ := rep_slice h
  refine ⟨A, cap, e, hc, hm, hoks, fun hp => ?_⟩
  obtain ⟨bl, off, e2, hel⟩ := hel hp
  refine ⟨bl, off, e2, fun i hi => ?_⟩
  obtain ⟨h1, h2⟩ := flat_el flatFlag hel hi
  exact ⟨xs[i], List.getElem?_eq_getElem hi, h1, h2 0 (by decide), h2 1 (by decide), h2 2 (by decide)⟩
theorem formFlag {w : World} {xs : List (Int × (Int × Int))} {v : Value} (h : Lst shFlag w xs v) : ∃ (A : Option Addr) (cap : Nat), v = .slice A xs.length cap ∧ xs.length ≤ cap ∧ cap ≤ maxLen := by
  obtain ⟨A, cap, e, hc, hm, _⟩ := rep_slice h
  exact ⟨A, cap, e, hc, hm⟩
end Go.Proofs.Ytbpamifkfbcloaa
