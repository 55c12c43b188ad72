/- The law's copy of a block: its two slices apart. -/
import Derived.Test.YtpcjinbbgnmchaaGreatTBlock
namespace Go.Proofs.YtpcjinbbgnmchaaGreat
open Go.ChangeShapes Go.WideShapes Go.ChangeAt Go.RowKit
theorem own_block {B : Nat} {w : World} {fs : List (Int × (Int × Int))} {m : List (List (Int × Int))} {A A' : Option Addr} {cap cap' : Nat} {F : List Nat} (h : shBlock.own w (fs, m) [.slice A fs.length cap, .slice A' m.length cap'] F) (hn : F.Nodup) (hB : ∀ k ∈ F, B ≤ k) :
    ∃ F1 F2, Own shFlag B w fs (.slice A fs.length cap) F1 ∧ Own (shL shFr) B w m (.slice A' m.length cap') F2 ∧ ∀ b ∈ F1, b ∉ F2 := by
  obtain ⟨c1, c2, F1, F2, he, rfl, h1, h2⟩ := h
  have l1 := (shL shFlag).len _ _ _ ((shL shFlag).ownRep _ _ _ _ h1)
  have l2 := (shL (shL shFr)).len _ _ _ ((shL (shL shFr)).ownRep _ _ _ _ h2)
  obtain ⟨x, rfl⟩ : ∃ x, c1 = [x] := List.length_eq_one_iff.1 l1
  obtain ⟨y, rfl⟩ : ∃ y, c2 = [y] := List.length_eq_one_iff.1 l2
  simp at he
  obtain ⟨rfl, rfl⟩ := he
  rw [List.nodup_append] at hn
  exact ⟨F1, F2, ⟨h1, hn.1, fun k hk => hB k (by simp [hk])⟩, ⟨h2, hn.2.1, fun k hk => hB k (by simp [hk])⟩, fun b hb hb' => hn.2.2 b hb b hb' rfl⟩
theorem toBlock_two (w : World) (fs : List (Int × (Int × Int))) (m : List (List (Int × Int))) (v v' : Value) (h : Lst shFlag w fs v) (h' : Lst (shL shFr) w m v') (hb : fs.length ≤ 1048576) (hb' : m.length + lenSS m ≤ 1048576) :
    Calls Tryz.prog 123 #[.agg #[v, v']] w fun e0 w' => ∃ A cap F A' cap' F', e0 = .returned (.agg #[.slice A fs.length cap, .slice A' m.length cap']) ∧ Own shFlag w.heap.size w' fs (.slice A fs.length cap) F ∧ Own (shL shFr) w.heap.size w' m (.slice A' m.length cap') F' ∧ (∀ b ∈ F, b ∉ F') ∧ Below w.heap.size w w' := by
  refine (toBlock_any w (fs, m) v v' h h' hb hb').mono ?_
  rintro e0 w' ⟨⟨A, cap, A', cap', F, rfl, ho, hn, hB⟩, hbel⟩
  obtain ⟨F1, F2, h1, h2, h3⟩ := own_block ho hn hB
  exact ⟨A, cap, F1, A', cap', F2, rfl, h1, h2, h3, hbel⟩
end Go.Proofs.YtpcjinbbgnmchaaGreat
