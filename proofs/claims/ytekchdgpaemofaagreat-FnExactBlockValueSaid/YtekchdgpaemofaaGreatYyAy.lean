import Derived.Test.YtekchdgpaemofaaGreatYyPm
import Derived.Test.YtekchdgpaemofaaGreatYyGl
import Derived.Test.YtekchdgpaemofaaGreatYyGo
import Derived.Test.YtekchdgpaemofaaGreatYySl
import Derived.Test.YtekchdgpaemofaaGreatYyAl
import Derived.Test.YtekchdgpaemofaaGreatYyIx
import Derived.Test.YtekchdgpaemofaaGreatYyVq
import Derived.Test.YtekchdgpaemofaaGreatYyGx
import Derived.Test.YtekchdgpaemofaaGreatYyAx
namespace Go.Proofs.YtekchdgpaemofaaGreat
open Go.ChangeShapes Go.WideShapes Go.RowKit
set_option linter.unusedVariables false
set_option linter.unusedSimpArgs false
attribute [local irreducible] Calls
@[irreducible] def shlW (a : Int) (b : Nat) : Int := wrap64 (a * 2 ^ min b 64)
theorem shl_u64 (t : TypeId) (a : Int) (b : Nat) : binOp .shl t (.int .i64 a) (.int .u64 (b : Int)) = pure (.int .i64 (shlW a b)) := by
  rw [binOp_shl]
  unfold shlW
  have h : ¬ ((b : Int) < 0) := by omega
  simp only [Op.shift, h, if_false, Int.toNat_natCast, IntKind.bits]
  rw [IntKind.wrap_i64]
  unfold wrap64
  rfl
attribute [local go_sem high] shl_u64
end Go.Proofs.YtekchdgpaemofaaGreat

namespace Go.Proofs.YtekchdgpaemofaaGreat
open Go.ChangeShapes Go.WideShapes Go.RowKit
set_option linter.unusedVariables false
set_option linter.unusedSimpArgs false
attribute [local irreducible] Calls
theorem l00Has_any (w : World) (L : List Int) (v : Value) (x : Int) (h : Lst (shI .i64) w L v) (hl : L.length ≤ 100) : Calls Tryz.prog 242 #[v, .int .i64 x] w fun e w' => e = .returned (.bool (memB L x)) ∧ Below w.heap.size w w' := by
  obtain ⟨A, cap, rfl, hc, hm, hel⟩ := lstI h
  have H1 := Lib.hid hel
  clear hel h
  unfold maxLen at hm
  go_enter Tryz.func242, Tryz.ntmps242
  go_wp2_with fail
  go_loopw [5] (fun i wr => ∃ (k : Nat), k ≤ L.length ∧ i = .int .i64 k ∧ Hid (∀ i, i < k → gi L i ≠ x) ∧ Below w.heap.size w wr) (fun i _ => L.length - (intOf i).toNat)
  case atStart => exact ⟨0, Nat.zero_le _, rfl, Lib.hid fun i hi => absurd hi (Nat.not_lt_zero i), belA⟩
  case round =>
    obtain ⟨k, hk, rfl, hS, hB⟩ := hrel
    by_cases hlt : k < L.length
    · have hk8 : (k : Int) < 9223372036854775807 := by omega
      obtain ⟨bl, off, rfl, hel⟩ := H1.out (by omega)
      have c0 := bkeep hB (hel k hlt)
      clear hel
      by_cases hx : gi L k = x
      · have hr : memB L x = true := memB_at hlt hx
        have hx1 : (gi L k == x) = true := by simp [hx]
        have HR := Lib.hid hr
        clear hr hx
        go_wp2_with fail
        exact bodyPost_ret (v := .bool true) (by simp [results, Tryz.results242, go_sem]) rfl ⟨by rw [HR.out], belA⟩
      · have hx1 : (gi L k == x) = false := by simp [hx]
        have HX := Lib.hid hx
        clear hx
        go_wp2_with fail
        go_roundw
        case rel =>
          refine ⟨k + 1, by omega, by go_num, Lib.hid fun i hi => ?_, belA⟩
          rcases Nat.lt_or_ge i k with h1 | h1
          · exact hS.out i h1
          · have : i = k := by omega
            subst this
            exact HX.out
        case measure => simp [intOf]; omega
    · have hr : memB L x = false := memB_f fun i hi => hS.out i (by omega)
      have HR := Lib.hid hr
      clear hr
      go_wp2_with fail
      exact bodyPost_ret (v := .bool false) (by simp [results, Tryz.results242, go_sem]) rfl ⟨by rw [HR.out], belA⟩
end Go.Proofs.YtekchdgpaemofaaGreat

namespace Go.Proofs.YtekchdgpaemofaaGreat
open Go.ChangeShapes Go.WideShapes Go.RowKit
set_option linter.unusedVariables false
set_option linter.unusedSimpArgs false
attribute [local irreducible] Calls
theorem l00Own_any (w : World) (L : List Int) (v : Value) (h : Lst (shI .i64) w L v) (hl : L.length ≤ 50) :
    Calls Tryz.prog 243 #[v] w fun e w' => ∃ u, e = .returned u ∧ AppI w.heap.size w' u L ∧ Below w.heap.size w w' := by
  obtain ⟨i1, z1, hi1, hz1, hs1, hb1, hl1⟩ := infoB_spec (P := Tryz.prog) (e := 2) (sz := 1) (bytes := 8) (by kernel_rfl)
  have I1 := Lib.hid hi1
  have Z1 := Lib.hid hz1
  clear hi1 hz1
  obtain ⟨A, cap, rfl, hc, hm, hel⟩ := lstI h
  rcases Nat.eq_zero_or_pos L.length with h0 | hp
  · have hx : L = [] := List.length_eq_zero_iff.1 h0
    subst hx
    clear hel h
    cases A
    · go_enter Tryz.func243, Tryz.ntmps243
      go_wp2_with fail
      exact bodyPost_ret (v := .slice (some ⟨_, 0, none⟩) 0 0) (by simp [results, Tryz.results243, go_sem] <;> rfl) rfl ⟨_, rfl, AppI.new (blknew _ _) (Nat.le_refl _), belA⟩
    · go_enter Tryz.func243, Tryz.ntmps243
      go_wp2_with fail
      exact bodyPost_ret (v := .slice (some ⟨_, 0, none⟩) 0 0) (by simp [results, Tryz.results243, go_sem] <;> rfl) rfl ⟨_, rfl, AppI.new (blknew _ _) (Nat.le_refl _), belA⟩
  · obtain ⟨b, o, rfl, _⟩ := hel hp
    have hok : Hid (∀ d ∈ L, okI .i64 d) := Lib.hid (oks_of (flat_int .i64) h)
    have hB : Below w.heap.size w (w.alloc (.cells #[] 2)) := belA
    have HN := Lib.hid (seq_news (h.below hB))
    have HO : Hid (AppI w.heap.size (w.alloc (.cells #[] 2)) (.slice (some ⟨w.heap.size, 0, none⟩) 0 0) []) := Lib.hid (AppI.new (blknew _ _) (Nat.le_refl _))
    have HB := Lib.hid hB
    clear hel h hB
    go_enter Tryz.func243, Tryz.ntmps243
    go_wp2_with (at_builtin; refine wpList_append_lies _ rfl (.tmp 3) (.tmp 4) 168 rfl w.heap.size 2 i1 z1 1 8 Tryz.underlying168 I1.out Z1.out hs1 hb1 hl1 (by decide) _ 0 [] rfl HO.out.1 ⟨b, o, none⟩ L.length cap (L.map fun d => .int .i64 d) rfl (by simp) HN.out (by simp [Value.oneCell']) hp (by unfold maxLen; omega) (by omega) (by simp) _ rfl ?_; intro g1 cap2 w2 hown hgrow hat hlt3)
    have hb2 := grown_below (B := w.heap.size) hgrow (fun q hq => (HO.out.ge q hq).1) (by simp)
    rw [Nat.zero_add, List.nil_append] at hown
    exact bodyPost_ret (v := .slice (some ⟨g1, 0, none⟩) L.length cap2) (by simp [results, Tryz.results243, go_sem]) rfl ⟨_, rfl, ⟨hown, hok.out⟩, HB.out.trans hb2⟩
end Go.Proofs.YtekchdgpaemofaaGreat
