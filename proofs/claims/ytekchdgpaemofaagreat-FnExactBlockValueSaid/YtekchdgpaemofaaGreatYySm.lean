import Derived.Test.YtekchdgpaemofaaGreatYyMt
import Derived.Test.YtekchdgpaemofaaGreatYyAm
import Derived.Test.YtekchdgpaemofaaGreatYySl
namespace Go.Proofs.YtekchdgpaemofaaGreat
open Go.ChangeShapes Go.WideShapes Go.ChangeAt Go.RowKit
set_option linter.unusedVariables false
set_option linter.unusedSimpArgs false
attribute [local irreducible] Calls
set_option maxHeartbeats 1000000 in
theorem l02Empty_any (w : World) (n : Nat) (hn : n ≤ 256) :
    Calls Tryz.prog 158 #[.int .i64 n] w fun e w' => ∃ A cap F, e = .returned (.slice A n cap) ∧ Own (shL shFr) w.heap.size w' (matL n n fun _ _ => (0, 1)) (.slice A n cap) F ∧ Below w.heap.size w w' := by
  obtain ⟨i1, z1, hi1, hz1, hs1, hb1, hl1⟩ := infoB_spec (P := Tryz.prog) (e := 54) (sz := 2) (bytes := 16) (by kernel_rfl)
  obtain ⟨i2, z2, hi2, hz2, hs2, hb2, hl2⟩ := infoB_spec (P := Tryz.prog) (e := 94) (sz := 1) (bytes := 24) (by kernel_rfl)
  have I1 := Lib.hid hi1
  have I2 := Lib.hid hi2
  have Z1 := Lib.hid hz1
  have Z2 := Lib.hid hz2
  clear hi1 hi2 hz1 hz2
  go_enter Tryz.func158, Tryz.ntmps158
  go_wp2_with fail
  go_loopw [3, 4] (fun o i wr => ∃ (k : Nat), k ≤ n ∧ i = .int .i64 k ∧ Hid (AppS (shL shFr) w.heap.size 94 wr o (matL k n fun _ _ => (0, 1))) ∧ Below w.heap.size w wr) (fun _ i _ => n - (intOf i).toNat)
  case atStart => exact ⟨0, Nat.zero_le _, rfl, Lib.hid (AppS.new _ (blknew _ _) (Nat.le_refl _)), belA⟩
  case round =>
    obtain ⟨k, hk, rfl, hA, hB⟩ := hrel
    have hz := hB.size
    by_cases hlt : k < n
    · have hk8 : (k : Int) < 9223372036854775807 := by omega
      go_wp2_with fail
      obtain ⟨W0, rfl⟩ : ∃ x, x = wr := ⟨_, rfl⟩
      go_loopw [5, 6] (fun r j wr => ∃ (l : Nat), l ≤ n ∧ j = .int .i64 l ∧ Hid (AppS shFr W0.heap.size 54 wr r (rowL l fun _ => (0, 1))) ∧ Below W0.heap.size W0 wr) (fun _ j _ => n - (intOf j).toNat)
      case atStart => exact ⟨0, Nat.zero_le _, rfl, Lib.hid (AppS.new _ (blknew _ _) (Nat.le_refl _)), belA⟩
      case round =>
        obtain ⟨l, hl, rfl, hA1, hB1⟩ := hrel
        have hz1 := hB1.size
        by_cases hlt2 : l < n
        · have hl8 : (l : Int) < 9223372036854775807 := by omega
          go_wp2_with fail
          refine Calls.mono (sZero_any _) ?_
          rintro e w1 ⟨rfl, hb⟩
          have hB2 := Lib.hid (bthen hB1 hb)
          have hz2 := hB2.out.size
          obtain ⟨L, F, hW0⟩ := hA1.out.below hb
          have hW := hW0.move (w' := w1.alloc (.cells #[.int .i64 0, .int .i64 1] 54)) (fun b _ hl => Below.heap_alloc w1 _ b hl)
          have hW := Lib.hid hW
          clear hW0 hb
          go_wp2_with (at_builtin; refine wpList_append_lies _ rfl (.tmp 19) (.tmp 21) 94 rfl W0.heap.size 54 i1 z1 2 16 Tryz.underlying94 I1.out Z1.out hs1 hb1 hl1 (by decide) u5 (rowL l fun _ => ((0, 1) : Int × Int)).length L rfl hW.out.1 ⟨w1.heap.size, 0, none⟩ 1 1 [.int .i64 0, .int .i64 1] rfl rfl (World.news_of_block (blknew _ _)) (by simp [Value.oneCell']) (by decide) (by rw [rowL_len]; unfold maxLen; omega) (by rw [rowL_len]; omega) (by simp; omega) _ rfl ?_; intro g1 cap1 w2 hown hgrow hat hlt3)
          go_roundw
          case rel =>
            have hN := hW.out.next (s := shFr) (d := (0, 1)) ((flatFr.2 _ _ _ _).2 ⟨⟨rfl, inF_ok zero_in⟩, rfl⟩) List.nodup_nil (by simp) (by simp) (by simp) hown hgrow hat
            have hv := (show AppS shFr W0.heap.size 54 _ u5 (rowL l fun _ => (0, 1)) from ⟨L, F, hW.out⟩).ge
            have hb3 := grown_below (B := W0.heap.size) hgrow (fun q hq => (hv q hq).1) (by simp; omega)
            refine ⟨l + 1, by omega, by go_num, Lib.hid ?_, (hB2.out.trans ((bal (Below.refl _ _) _).mono hz2)).trans hb3⟩
            exact Eq.mp (congrArg (fun z : List (Int × Int) => AppS shFr W0.heap.size 54 w2 (.slice (some ⟨g1, 0, none⟩) ((rowL l fun _ => ((0, 1) : Int × Int)).length + 1) cap1) z) (rowL_succ l fun _ => ((0, 1) : Int × Int)).symm) hN
          case measure => simp [intOf]; omega
        · have e : l = n := by omega
          subst e
          obtain ⟨A1, cap1, F1, he, hO⟩ := hA1.out.own
          replace he : u5 = .slice A1 (rowL l fun _ => ((0, 1) : Int × Int)).length cap1 := he
          rw [rowL_len] at he
          subst he
          obtain ⟨L, F, hW00⟩ := hA.out
          have hW0 := hW00.move (w' := wr) (fun b _ h2 => hB1.block b h2)
          have hW := hW0.move (w' := wr.alloc (.cells #[.slice A1 l cap1] 94)) (fun b _ hl => Below.heap_alloc wr _ b hl)
          have hW := Lib.hid hW
          have hO := Lib.hid hO
          have hFb : Hid (∀ b ∈ F, b < W0.heap.size) := Lib.hid hW00.2.1.lt
          clear hW0 hW00
          go_wp2_with (at_builtin; refine wpList_append_lies _ rfl (.tmp 23) (.tmp 25) 36 rfl w.heap.size 94 i2 z2 1 24 Tryz.underlying36 I2.out Z2.out hs2 hb2 hl2 (by decide) u3 (matL k l fun _ _ => ((0, 1) : Int × Int)).length L rfl hW.out.1 ⟨wr.heap.size, 0, none⟩ 1 1 [.slice A1 l cap1] rfl rfl (World.news_of_block (blknew _ _)) (by simp [Value.oneCell']) (by decide) (by rw [matL_len]; unfold maxLen; omega) (by rw [matL_len]; omega) (by simp; omega) _ rfl ?_; intro g1 cap2 w2 hown hgrow hat hlt3)
          go_roundw
          case rel =>
            have hOw : (shL shFr).own (wr.alloc (.cells #[.slice A1 l cap1] 94)) (rowL l fun _ => (0, 1)) [.slice A1 l cap1] F1 := (shL shFr).ownKeep _ _ _ _ _ (fun b hb => Below.heap_alloc wr _ b (hO.out.lt b hb)) hO.out.1
            have hAo := hA.out.ge
            have hFo := hFb.out
            have hN := hW.out.next (s := shL shFr) (d := rowL l fun _ => (0, 1)) hOw hO.out.2.1 (fun b hb => by have := hO.out.2.2 b hb; omega) (fun b hb hb2 => by have := hO.out.2.2 b hb; have := hFo b hb2; omega) (fun q hq hb => by have := hO.out.2.2 q hb; have := (hAo q hq).2; omega) hown hgrow hat
            have hb2 := grown_below (B := w.heap.size) hgrow (fun q hq => (hAo q hq).1) (by simp; omega)
            refine ⟨k + 1, by omega, by go_num, Lib.hid ?_, ((bthen hB hB1).trans ((bal (Below.refl _ _) _).mono (by omega))).trans hb2⟩
            exact Eq.mp (congrArg (fun z : List (List (Int × Int)) => AppS (shL shFr) w.heap.size 94 w2 (.slice (some ⟨g1, 0, none⟩) ((matL k l fun _ _ => ((0, 1) : Int × Int)).length + 1) cap2) z) (matL_succ k l fun _ _ => ((0, 1) : Int × Int)).symm) hN
          case measure => simp [intOf]; omega
    · have e : k = n := by omega
      subst e
      obtain ⟨A1, cap1, F1, he, hO⟩ := hA.out.own
      replace he : u3 = .slice A1 (matL k k fun _ _ => ((0, 1) : Int × Int)).length cap1 := he
      rw [matL_len] at he
      subst he
      have hO := Lib.hid hO
      go_wp2_with fail
      exact bodyPost_ret (v := .slice A1 k cap1) (by simp [results, Tryz.results158, go_sem]) rfl ⟨A1, cap1, F1, rfl, hO.out, belA⟩
theorem matL_set (m n : Nat) (E : Nat → Nat → Int × Int) {i j : Nat} (hi : i < m) (hj : j < n) (d : Int × Int) : (matL m n E).set i ((rowL n (E i)).set j d) = matL m n fun a b => if a = i ∧ b = j then d else E a b := by
  apply List.ext_getElem?
  intro a
  rw [List.getElem?_set]
  by_cases ha : i = a
  · subst ha
    rw [if_pos rfl, if_pos (by rw [matL_len]; exact hi)]
    simp only [matL, List.getElem?_map]
    rw [List.getElem?_range hi]
    simp only [Option.map_some, Option.some.injEq]
    apply List.ext_getElem?
    intro b
    rw [List.getElem?_set]
    by_cases hb : j = b
    · subst hb
      rw [if_pos rfl, if_pos (by rw [rowL_len]; exact hj)]
      simp [rowL, List.getElem?_range hj]
    · rw [if_neg hb]
      simp only [rowL, List.getElem?_map]
      by_cases hbn : b < n
      · rw [List.getElem?_range hbn]; simp [Ne.symm hb]
      · rw [List.getElem?_eq_none (by simpa using hbn)]; rfl
  · rw [if_neg ha]
    simp only [matL, List.getElem?_map]
    by_cases ham : a < m
    · rw [List.getElem?_range ham]
      simp only [Option.map_some, Option.some.injEq]
      unfold rowL
      apply List.map_congr_left
      intro b _
      rw [if_neg]
      rintro ⟨rfl, _⟩
      exact ha rfl
    · rw [List.getElem?_eq_none (by simpa using ham)]; rfl
theorem matL_congr {m n : Nat} {E E' : Nat → Nat → Int × Int} (h : ∀ a, a < m → ∀ b, b < n → E a b = E' a b) : matL m n E = matL m n E' := by
  unfold matL rowL
  refine List.map_congr_left fun a ha => List.map_congr_left fun b hb => h a (by simpa using ha) b (by simpa using hb)
theorem matL_get {m n : Nat} (E : Nat → Nat → Int × Int) {i : Nat} (hi : i < m) : (matL m n E)[i]? = some (rowL n (E i)) := by simp [matL, List.getElem?_range hi]
end Go.Proofs.YtekchdgpaemofaaGreat
