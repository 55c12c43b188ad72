import Derived.OwnWalk
import Derived.Test.YtekchdgpaemofaaGreatYyMx
import Derived.Test.YtekchdgpaemofaaGreatYySl
namespace Go.Proofs.YtekchdgpaemofaaGreat
open Go.ChangeShapes Go.WideShapes Go.ChangeAt Go.RowKit
set_option linter.unusedVariables false
set_option linter.unusedSimpArgs false
attribute [local irreducible] Calls
def rowL (n : Nat) (D : Nat → Int × Int) : List (Int × Int) := (List.range n).map D
def matL (m n : Nat) (D : Nat → Nat → Int × Int) : List (List (Int × Int)) := (List.range m).map fun i => rowL n (D i)
def rowZ (n : Nat) (z : Nat → Bool) : Bool := (List.range n).any z
def matZ (m n : Nat) (z : Nat → Nat → Bool) : Bool := (List.range m).any fun i => rowZ n (z i)
theorem rowL_len (n : Nat) (D : Nat → Int × Int) : (rowL n D).length = n := by simp [rowL]
theorem rowL_succ (n : Nat) (D : Nat → Int × Int) : rowL (n + 1) D = rowL n D ++ [D n] := by simp [rowL, List.range_succ]
theorem matL_len (m n : Nat) (D : Nat → Nat → Int × Int) : (matL m n D).length = m := by simp [matL]
theorem matL_succ (m n : Nat) (D : Nat → Nat → Int × Int) : matL (m + 1) n D = matL m n D ++ [rowL n (D m)] := by simp [matL, List.range_succ]
theorem rowZ_succ (n : Nat) (z : Nat → Bool) : rowZ (n + 1) z = (rowZ n z || z n) := by simp [rowZ, List.range_succ]
theorem matZ_succ (m n : Nat) (z : Nat → Nat → Bool) : matZ (m + 1) n z = (matZ m n z || rowZ n (z m)) := by simp [matZ, List.range_succ]
def Fills (f : FuncId) (caps : Array Value) (n N0 : Nat) (R : Bool → World → Prop) (D : Nat → Nat → Int × Int) (z : Nat → Nat → Bool) : Prop :=
  ∀ (W : World) (g : Bool) (i j : Nat), i < n → j < n → N0 ≤ W.heap.size → R g W →
    Calls Tryz.prog f (#[.int .i64 i, .int .i64 j] ++ caps) W fun e W' => e = .returned (.agg #[.int .i64 (D i j).1, .int .i64 (D i j).2]) ∧ R (g || z i j) W' ∧ W.heap.size ≤ W'.heap.size ∧ ∀ k, N0 ≤ k → k < W.heap.size → W'.heap[k]? = W.heap[k]?
set_option maxHeartbeats 1000000 in
theorem matrix_any (w : World) (n : Nat) (f : FuncId) (caps : Array Value) (R : Bool → World → Prop) (g : Bool) (D : Nat → Nat → Int × Int) (z : Nat → Nat → Bool) (hn : n ≤ 8)
    (eg : ∀ args w, (callFunc f args).run Tryz.prog w = .ok (.enter f args) w) (hR : ∀ g W W', R g W → Below w.heap.size W W' → R g W') (h0 : R g w) (hD : ∀ i j, i < n → j < n → okFr (D i j)) (hF : Fills f caps n w.heap.size R D z) :
    Calls Tryz.prog 165 #[.int .i64 n, .func (.func f) #[] caps] w fun e w' => ∃ A cap F, e = .returned (.slice A n cap) ∧ Own (shL shFr) w.heap.size w' (matL n n D) (.slice A n cap) F ∧ R (g || matZ n n z) w' ∧ w.heap.size ≤ w'.heap.size := by
  obtain ⟨i1, z1, hi1, hz1, hs1, hb1, hl1⟩ := infoB_spec (P := Tryz.prog) (e := 54) (sz := 2) (bytes := 16) (by kernel_rfl)
  obtain ⟨i2, z2, hi2, hz2, hs2, hb2, hl2⟩ := infoB_spec (P := Tryz.prog) (e := 94) (sz := 1) (bytes := 24) (by kernel_rfl)
  have HF := Lib.hid hF
  have HR := Lib.hid hR
  have H0 := Lib.hid h0
  have HD := Lib.hid hD
  have I1 := Lib.hid hi1
  have I2 := Lib.hid hi2
  have Z1 := Lib.hid hz1
  have Z2 := Lib.hid hz2
  clear hF hR h0 hD hi1 hi2 hz1 hz2
  go_enter Tryz.func165, Tryz.ntmps165
  go_wp2_with fail
  go_loopw [5, 11] (fun o i wr => ∃ (k : Nat), k ≤ n ∧ i = .int .i64 k ∧ Hid (AppS (shL shFr) w.heap.size 94 wr o (matL k n D)) ∧ Hid (R (g || matZ k n z) wr) ∧ w.heap.size ≤ wr.heap.size) (fun _ i _ => n - (intOf i).toNat)
  case atStart => exact ⟨0, Nat.zero_le _, rfl, Lib.hid (AppS.new _ (blknew _ _) (Nat.le_refl _)), Lib.hid (by rw [show matZ 0 n z = false from rfl, Bool.or_false]; exact HR.out _ _ _ H0.out (bal (Below.refl _ _) _)), by simp⟩
  case round =>
    obtain ⟨k, hk, rfl, hA, hG, hz⟩ := hrel
    by_cases hlt : k < n
    · have hk8 : (k : Int) < 9223372036854775807 := by omega
      go_wp2_with fail
      obtain ⟨W0, rfl⟩ : ∃ x, x = wr := ⟨_, rfl⟩
      go_loopw [7, 16] (fun r j wq => ∃ (l : Nat), l ≤ n ∧ j = .int .i64 l ∧ Hid (AppS shFr W0.heap.size 54 wq r (rowL l (D k))) ∧ Hid (R ((g || matZ k n z) || rowZ l (z k)) wq) ∧ W0.heap.size ≤ wq.heap.size ∧ Hid (∀ b, w.heap.size ≤ b → b < W0.heap.size → wq.heap[b]? = W0.heap[b]?)) (fun _ j _ => n - (intOf j).toNat)
      case atStart => exact ⟨0, Nat.zero_le _, rfl, Lib.hid (AppS.new _ (blknew _ _) (Nat.le_refl _)), Lib.hid (by rw [show rowZ 0 (z k) = false from rfl, Bool.or_false]; exact HR.out _ _ _ hG.out ((bal (Below.refl _ _) _).mono hz)), by simp, Lib.hid fun b _ hb => (Below.heap_alloc W0 _ b hb)⟩
      case round =>
        obtain ⟨l, hl, rfl, hA1, hG1, hz1, hK⟩ := hrel
        by_cases hlt2 : l < n
        · have hl8 : (l : Int) < 9223372036854775807 := by omega
          go_wp2_with fail
          refine Calls.mono (HF.out wr _ k l hlt hlt2 (by omega) hG1.out) ?_
          rintro e w1 ⟨rfl, hG2, hz2, hK2⟩
          have hG2 := Lib.hid hG2
          have hK2 := Lib.hid hK2
          obtain ⟨L, F, hW0⟩ := hA1.out.move (w' := w1) (fun b hb hl => hK2.out b (by omega) hl)
          have hW := hW0.move (w' := w1.alloc (.cells #[.int .i64 (D k l).1, .int .i64 (D k l).2] 54)) (fun b _ hl => Below.heap_alloc w1 _ b hl)
          have hW := Lib.hid hW
          clear hW0
          go_wp2_with (at_builtin; refine wpList_append_lies _ rfl (.tmp 19) (.tmp 24) 94 rfl W0.heap.size 54 i1 z1 2 16 Tryz.underlying94 I1.out Z1.out hs1 hb1 hl1 (by decide) u7 (rowL l (D k)).length L rfl hW.out.1 ⟨w1.heap.size, 0, none⟩ 1 1 [.int .i64 (D k l).1, .int .i64 (D k l).2] rfl rfl (World.news_of_block (blknew _ _)) (by simp [Value.oneCell']) (by decide) (by rw [rowL_len]; unfold maxLen; omega) (by rw [rowL_len]; omega) (by simp; omega) _ rfl ?_; intro g1 cap1 w2 hown hgrow hat hlt3)
          go_roundw
          case rel =>
            have hN := hW.out.next (s := shFr) (d := D k l) ((flatFr.2 _ _ _ _).2 ⟨⟨rfl, HD.out k l hlt hlt2⟩, rfl⟩) List.nodup_nil (by simp) (by simp) (by simp) hown hgrow hat
            have hb1 : Below w.heap.size w1 (w1.alloc (.cells #[.int .i64 (D k l).1, .int .i64 (D k l).2] 54)) := (bal (Below.refl _ _) _).mono (by omega)
            have hv := (show AppS shFr W0.heap.size 54 _ u7 (rowL l (D k)) from ⟨L, F, hW.out⟩).ge
            have hb2 := grown_below (B := w.heap.size) hgrow (fun q hq => by have := (hv q hq).1; omega) (by simp; omega)
            have hb3 := grown_below (B := W0.heap.size) hgrow (fun q hq => (hv q hq).1) (by simp; omega)
            refine ⟨l + 1, by omega, by go_num, Lib.hid ?_, Lib.hid ?_, by have := hgrow.size; simp at this; omega, Lib.hid fun b h1 h2 => ?_⟩
            · have hN : AppS shFr W0.heap.size 54 w2 (.slice (some ⟨g1, 0, none⟩) ((rowL l (D k)).length + 1) cap1) (rowL l (D k) ++ [D k l]) := hN
              rw [← rowL_succ] at hN
              exact hN
            · rw [rowZ_succ, ← Bool.or_assoc]
              exact HR.out _ _ _ hG2.out (hb1.trans hb2)
            · rw [hb3.block b h2, Below.heap_alloc w1 _ b (by omega), hK2.out b h1 (by omega)]
              exact hK.out b h1 h2
          case measure => simp [intOf]; omega
        · have e : l = n := by omega
          subst e
          obtain ⟨A1, cap1, F1, he, hO⟩ := hA1.out.own
          replace he : u7 = .slice A1 (rowL l (D k)).length cap1 := he
          rw [rowL_len] at he
          subst he
          obtain ⟨L, F, hW00⟩ := hA.out
          have hW0 := hW00.move (w' := wr) (fun b h1 h2 => hK.out b h1 h2)
          have hW := hW0.move (w' := wr.alloc (.cells #[.slice A1 l cap1] 94)) (fun b _ hl => Below.heap_alloc wr _ b hl)
          have hW := Lib.hid hW
          have hO := Lib.hid hO
          have hFb : Hid (∀ b ∈ F, b < W0.heap.size) := Lib.hid hW00.2.1.lt
          clear hW0 hW00
          go_wp2_with (at_builtin; refine wpList_append_lies _ rfl (.tmp 27) (.tmp 29) 36 rfl w.heap.size 94 i2 z2 1 24 Tryz.underlying36 I2.out Z2.out hs2 hb2 hl2 (by decide) u5 (matL k l D).length L rfl hW.out.1 ⟨wr.heap.size, 0, none⟩ 1 1 [.slice A1 l cap1] rfl rfl (World.news_of_block (blknew _ _)) (by simp [Value.oneCell']) (by decide) (by rw [matL_len]; unfold maxLen; omega) (by rw [matL_len]; omega) (by simp; omega) _ rfl ?_; intro g1 cap2 w2 hown hgrow hat hlt3)
          go_roundw
          case rel =>
            have hOw : (shL shFr).own (wr.alloc (.cells #[.slice A1 l cap1] 94)) (rowL l (D k)) [.slice A1 l cap1] F1 := (shL shFr).ownKeep _ _ _ _ _ (fun b hb => Below.heap_alloc wr _ b (hO.out.lt b hb)) hO.out.1
            have hAo := hA.out.ge
            have hFo := hFb.out
            have hN := hW.out.next (s := shL shFr) (d := rowL l (D k)) hOw hO.out.2.1 (fun b hb => by have := hO.out.2.2 b hb; omega) (fun b hb hb2 => by have := hO.out.2.2 b hb; have := hFo b hb2; omega) (fun q hq hb => by have := hO.out.2.2 q hb; have := (hAo q hq).2; omega) hown hgrow hat
            have hb1 : Below w.heap.size wr (wr.alloc (.cells #[.slice A1 l cap1] 94)) := (bal (Below.refl _ _) _).mono (by omega)
            have hb2 := grown_below (B := w.heap.size) hgrow (fun q hq => (hAo q hq).1) (by simp; omega)
            refine ⟨k + 1, by omega, by go_num, Lib.hid ?_, Lib.hid ?_, by have := hgrow.size; simp at this; omega⟩
            · have hN : AppS (shL shFr) w.heap.size 94 w2 (.slice (some ⟨g1, 0, none⟩) ((matL k l D).length + 1) cap2) (matL k l D ++ [rowL l (D k)]) := hN
              rw [← matL_succ] at hN
              exact hN
            · rw [matZ_succ, ← Bool.or_assoc]
              exact HR.out _ _ _ hG1.out (hb1.trans hb2)
          case measure => simp [intOf]; omega
    · have e : k = n := by omega
      subst e
      obtain ⟨A1, cap1, F1, he, hO⟩ := hA.out.own
      replace he : u5 = .slice A1 (matL k k D).length cap1 := he
      rw [matL_len] at he
      subst he
      have hO := Lib.hid hO
      go_wp2_with fail
      exact bodyPost_ret (v := .slice A1 k cap1) (by simp [results, Tryz.results165, go_sem]) rfl ⟨A1, cap1, F1, rfl, hO.out, hG.out, hz⟩
def MatRet (B : Nat) (xs : List (List (Int × Int))) (c : Int) (e : Ending) (w' : World) : Prop := ∃ A cap F, e = .returned (.tuple #[.slice A xs.length cap, .int .i64 c]) ∧ Own (shL shFr) B w' xs (.slice A xs.length cap) F
theorem MatRet.nil (B : Nat) (w' : World) (c : Int) : MatRet B [] c (.returned (.tuple #[.slice none 0 0, .int .i64 c])) w' := ⟨none, 0, [], rfl, Own.nil (shL shFr) B w' 0 (Nat.zero_le _) none⟩
theorem MatRet.some {B : Nat} {w' : World} {M : List (List (Int × Int))} {A : Option Addr} {cap n : Nat} {F : List Nat} (hn : M.length = n) (h : Own (shL shFr) B w' M (.slice A n cap) F) : MatRet B M 0 (.returned (.tuple #[.slice A n cap, .int .i64 0])) w' := by
  subst hn
  exact ⟨A, cap, F, rfl, h⟩
end Go.Proofs.YtekchdgpaemofaaGreat
