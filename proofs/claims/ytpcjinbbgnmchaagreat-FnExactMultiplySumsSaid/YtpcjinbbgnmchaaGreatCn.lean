/- slices.Clone of terms. -/
import Derived.Test.YtpcjinbbgnmchaaGreatSl
import Derived.OwnWalk
import Derived.Deep.AppendLies
namespace Go.Proofs.YtpcjinbbgnmchaaGreat
open Go.ChangeShapes Go.WideShapes Go.RowKit
set_option linter.unusedVariables false
set_option linter.unusedSimpArgs false
attribute [local irreducible] Calls
/-- A list of terms is handed out. -/
def TrmRet (B : Nat) (w : World) (L : List shTerm.T) (e : Ending) (w' : World) : Prop := ∃ A cap F, e = .returned (.slice A L.length cap) ∧ Own shTerm B w' L (.slice A L.length cap) F ∧ Below w.heap.size w w'
@[go_sem high] theorem nilTerm_t (n c n' c' : Nat) (w : World) : (binOp .eql 32 (.slice none n c) (.slice none n' c')).run Tryz.prog w = .ok (.bool true) w :=
  Lib.run_eql_slice_nil w _ 84 none n c n' c' Tryz.underlying32
@[go_sem high] theorem nilTerm_f (p : Addr) (n c n' c' : Nat) (w : World) : (binOp .eql 32 (.slice (some p) n c) (.slice none n' c')).run Tryz.prog w = .ok (.bool false) w :=
  Lib.run_eql_slice_nil w _ 84 (some p) n c n' c' Tryz.underlying32
theorem cloneTerm_any (w : World) (xs : List shTerm.T) (v : Value) (h : Lst shTerm w xs v) (hl : xs.length ≤ 1048576) :
    Calls Tryz.prog 135 #[v] w (TrmRet w.heap.size w xs) := by
  obtain ⟨i1, z1, hi1, hz1, hs1, hb1, hl1⟩ := infoB_spec (P := Tryz.prog) (e := 84) (sz := 5) (bytes := 40) (by kernel_rfl)
  have I1 := Lib.hid hi1
  have Z1 := Lib.hid hz1
  clear hi1 hz1
  rcases Nat.eq_zero_or_pos xs.length with h0 | hp
  · have hx : xs = [] := List.length_eq_zero_iff.1 h0
    subst hx
    obtain ⟨A, cap, hv, _, _⟩ := h
    have hv : v = .slice A 0 cap := by simpa using hv
    subst hv
    cases A
    · go_enter Tryz.func135, Tryz.ntmps135
      go_wp2_with fail
      exact bodyPost_ret (v := .slice none 0 0) (by simp [results, Tryz.results135, go_sem]) rfl ⟨none, 0, [], rfl, Own.nil _ _ _ 0 (Nat.zero_le _) _, belA⟩
    · go_enter Tryz.func135, Tryz.ntmps135
      go_wp2_with fail
      exact bodyPost_ret (v := .slice (some ⟨_, 0, none⟩) 0 0) (by simp [results, Tryz.results135, go_sem] <;> rfl) rfl ⟨_, 0, [], rfl, Own.nil _ _ _ 0 (Nat.zero_le _) _, belA⟩
  · obtain ⟨b, o, cap, rfl, hb, hn⟩ := lst_news flatTerm (fun d => rfl) h hp
    have HN := Lib.hid hn
    have H := Lib.hid h
    have hok : Hid (∀ d ∈ xs, okTerm d) := Lib.hid (oks_of flatTerm h)
    have hB : Below w.heap.size w (w.alloc (.cells #[] 84)) := belA
    have HN2 : Hid (∀ j u, (xs.flatMap fun d => [.int .i64 d.1.1, .int .i64 d.1.2.1, .int .u32 d.1.2.2, .int .i64 d.2.1, .int .i64 d.2.2])[j]? = some u → (w.alloc (.cells #[] 84)).cell? ((⟨b, o, none⟩ : Addr).add j) = some u) := Lib.hid fun j u hu => bkeep hB (hn j u hu)
    have HO : Hid ((w.alloc (.cells #[] 84)).ownsRow w.heap.size 84 5 (.slice (some ⟨w.heap.size, 0, none⟩) 0 0) 0 []) := Lib.hid ⟨rfl, .inr ⟨_, 0, #[], rfl, Nat.le_refl _, blkA, Nat.le_refl _, Nat.zero_le _, rfl, rfl⟩⟩
    have HB := Lib.hid hB
    clear hn h hB
    go_enter Tryz.func135, Tryz.ntmps135
    go_wp2_with (at_builtin; refine wpList_append_lies _ rfl (.tmp 5) (.tmp 6) 32 rfl w.heap.size 84 i1 z1 5 40 Tryz.underlying32 I1.out Z1.out hs1 hb1 hl1 (by decide) _ 0 [] rfl HO.out ⟨b, o, none⟩ xs.length cap _ rfl (flatMap_len (n := 5) (fun d => rfl) xs) HN2.out (by simp [Value.oneCell']; grind) hp (by unfold maxLen; omega) (by omega) (by simp) _ rfl ?_; intro g1 cap2 w2 hown hgrow hat hlt3)
    have hq : ∀ q, (Value.slice (some ⟨w.heap.size, 0, none⟩) 0 0).ownBlock = some q → w.heap.size ≤ q := fun q hq => by
      have : w.heap.size = q := by simpa [Value.ownBlock] using hq
      omega
    have hb2 := grown_below (B := w.heap.size) hgrow hq (by simp)
    rw [Nat.zero_add, List.nil_append] at hown
    have hO := own_new (s := shTerm) flatTerm (fun d => rfl) (xs := xs) hown hok.out hp
    exact bodyPost_ret (v := .slice (some ⟨g1, 0, none⟩) xs.length cap2) (by simp [results, Tryz.results135, go_sem]) rfl ⟨_, cap2, _, rfl, hO, HB.out.trans hb2⟩
end Go.Proofs.YtpcjinbbgnmchaaGreat
