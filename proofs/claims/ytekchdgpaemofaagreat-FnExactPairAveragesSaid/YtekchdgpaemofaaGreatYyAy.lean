import Derived.Test.YtekchdgpaemofaaGreatYyAx
import Derived.Test.YtekchdgpaemofaaGreatYyPv
namespace Go.Proofs.YtekchdgpaemofaaGreat
open Go.ChangeShapes Go.WideShapes Go.RowKit
set_option linter.unusedVariables false
set_option linter.unusedSimpArgs false
attribute [local irreducible] Calls
theorem l00Own_any (w : World) (L : List Int) (v : Value) (h : Lst (shI .i64) w L v) (hl : L.length ≤ 50) :
    Calls Tryz.prog 243 #[v] w fun e w' => ∃ u, e = .returned u ∧ AppI w.heap.size w' u L ∧ Below w.heap.size w w' := by
  obtain ⟨i1, z1, hi1, hz1, hs1, hb1, hl1⟩ := infoB_spec (P := Tryz.prog) (e := 2) (sz := 1) (bytes := 8) (by kernel_rfl)
  have I1 := Lib.hid hi1
  have Z1 := Lib.hid hz1
  clear hi1 hz1
  obtain ⟨A, cap, rfl, hc, hm, hel⟩ := lstI h
  rcases Nat.eq_zero_or_pos L.length with h0 | hp
  · have hx : L = [] := List.length_eq_zero_iff.1 h0
    subst hx
    clear hel h
    cases A
    · go_enter Tryz.func243, Tryz.ntmps243
      go_wp2_with fail
      exact bodyPost_ret (v := .slice (some ⟨_, 0, none⟩) 0 0) (by simp [results, Tryz.results243, go_sem] <;> rfl) rfl ⟨_, rfl, AppI.new (blknew _ _) (Nat.le_refl _), belA⟩
    · go_enter Tryz.func243, Tryz.ntmps243
      go_wp2_with fail
      exact bodyPost_ret (v := .slice (some ⟨_, 0, none⟩) 0 0) (by simp [results, Tryz.results243, go_sem] <;> rfl) rfl ⟨_, rfl, AppI.new (blknew _ _) (Nat.le_refl _), belA⟩
  · obtain ⟨b, o, rfl, _⟩ := hel hp
    have hok : Hid (∀ d ∈ L, okI .i64 d) := Lib.hid (oks_of (flat_int .i64) h)
    have hB : Below w.heap.size w (w.alloc (.cells #[] 2)) := belA
    have HN := Lib.hid (seq_news (h.below hB))
    have HO : Hid (AppI w.heap.size (w.alloc (.cells #[] 2)) (.slice (some ⟨w.heap.size, 0, none⟩) 0 0) []) := Lib.hid (AppI.new (blknew _ _) (Nat.le_refl _))
    have HB := Lib.hid hB
    clear hel h hB
    go_enter Tryz.func243, Tryz.ntmps243
    go_wp2_with (at_builtin; refine wpList_append_lies _ rfl (.tmp 3) (.tmp 4) 168 rfl w.heap.size 2 i1 z1 1 8 Tryz.underlying168 I1.out Z1.out hs1 hb1 hl1 (by decide) _ 0 [] rfl HO.out.1 ⟨b, o, none⟩ L.length cap (L.map fun d => .int .i64 d) rfl (by simp) HN.out (by simp [Value.oneCell']) hp (by unfold maxLen; omega) (by omega) (by simp) _ rfl ?_; intro g1 cap2 w2 hown hgrow hat hlt3)
    have hb2 := grown_below (B := w.heap.size) hgrow (fun q hq => (HO.out.ge q hq).1) (by simp)
    rw [Nat.zero_add, List.nil_append] at hown
    exact bodyPost_ret (v := .slice (some ⟨g1, 0, none⟩) L.length cap2) (by simp [results, Tryz.results243, go_sem]) rfl ⟨_, rfl, ⟨hown, hok.out⟩, HB.out.trans hb2⟩
end Go.Proofs.YtekchdgpaemofaaGreat
