/- spec.l02Empty, spec.l02AddAll, spec.AddMatrices. -/
import Derived.Test.YtekchdgpaemofaaMt
import Derived.Test.YtekchdgpaemofaaAm
import Derived.Test.YtekchdgpaemofaaSl
namespace Go.Proofs.Ytekchdgpaemofaa
open Go.ChangeShapes Go.WideShapes Go.ChangeAt Go.RowKit
set_option linter.unusedVariables false
set_option linter.unusedSimpArgs false
attribute [local irreducible] Calls
set_option maxHeartbeats 1000000 in
theorem l02Empty_any (w : World) (n : Nat) (hn : n ≤ 256) :
    Calls Try.prog 71 #[.int .i64 n] w fun e w' => ∃ A cap F, e = .returned (.slice A n cap) ∧ Own (shL shFr) w.heap.size w' (matL n n fun _ _ => (0, 1)) (.slice A n cap) F ∧ Below w.heap.size w w' := by
  obtain ⟨i1, z1, hi1, hz1, hs1, hb1, hl1⟩ := infoB_spec (P := Try.prog) (e := 79) (sz := 2) (bytes := 16) (by kernel_rfl)
  obtain ⟨i2, z2, hi2, hz2, hs2, hb2, hl2⟩ := infoB_spec (P := Try.prog) (e := 32) (sz := 1) (bytes := 24) (by kernel_rfl)
  have I1 := Lib.hid hi1
  have I2 := Lib.hid hi2
  have Z1 := Lib.hid hz1
  have Z2 := Lib.hid hz2
  clear hi1 hi2 hz1 hz2
  go_enter Try.func71, Try.ntmps71
  go_wp2_with fail
  go_loopw [3, 4] (fun o i wr => ∃ (k : Nat), k ≤ n ∧ i = .int .i64 k ∧ Hid (AppS (shL shFr) w.heap.size 32 wr o (matL k n fun _ _ => (0, 1))) ∧ Below w.heap.size w wr) (fun _ i _ => n - (intOf i).toNat)
  case atStart => exact ⟨0, Nat.zero_le _, rfl, Lib.hid (AppS.new _ (blknew _ _) (Nat.le_refl _)), belA⟩
  case round =>
    obtain ⟨k, hk, rfl, hA, hB⟩ := hrel
    have hz := hB.size
    by_cases hlt : k < n
    · have hk8 : (k : Int) < 9223372036854775807 := by omega
      go_wp2_with fail
      obtain ⟨W0, rfl⟩ : ∃ x, x = wr := ⟨_, rfl⟩
      go_loopw [5, 6] (fun r j wr => ∃ (l : Nat), l ≤ n ∧ j = .int .i64 l ∧ Hid (AppS shFr W0.heap.size 79 wr r (rowL l fun _ => (0, 1))) ∧ Below W0.heap.size W0 wr) (fun _ j _ => n - (intOf j).toNat)
      case atStart => exact ⟨0, Nat.zero_le _, rfl, Lib.hid (AppS.new _ (blknew _ _) (Nat.le_refl _)), belA⟩
      case round =>
        obtain ⟨l, hl, rfl, hA1, hB1⟩ := hrel
        have hz1 := hB1.size
        by_cases hlt2 : l < n
        · have hl8 : (l : Int) < 9223372036854775807 := by omega
          go_wp2_with fail
          refine Calls.mono (sZero_any _) ?_
          rintro e w1 ⟨rfl, hb⟩
          have hB2 := Lib.hid (bthen hB1 hb)
          have hz2 := hB2.out.size
          obtain ⟨L, F, hW0⟩ := hA1.out.below hb
          have hW := hW0.move (w' := w1.alloc (.cells #[.int .i64 0, .int .i64 1] 79)) (fun b _ hl => Below.heap_alloc w1 _ b hl)
          have hW := Lib.hid hW
          clear hW0 hb
          go_wp2_with (at_builtin; refine wpList_append_lies _ rfl (.tmp 19) (.tmp 21) 32 rfl W0.heap.size 79 i1 z1 2 16 Try.underlying32 I1.out Z1.out hs1 hb1 hl1 (by decide) u5 (rowL l fun _ => ((0, 1) : Int × Int)).length L rfl hW.out.1 ⟨w1.heap.size, 0, none⟩ 1 1 [.int .i64 0, .int .i64 1] rfl rfl (World.news_of_block (blknew _ _)) (by simp [Value.oneCell']) (by decide) (by rw [rowL_len]; unfold maxLen; omega) (by rw [rowL_len]; omega) (by simp; omega) _ rfl ?_; intro g1 cap1 w2 hown hgrow hat hlt3)
          go_roundw
          case rel =>
            have hN := hW.out.next (s := shFr) (d := (0, 1)) ((flatFr.2 _ _ _ _).2 ⟨⟨rfl, inF_ok zero_in⟩, rfl⟩) List.nodup_nil (by simp) (by simp) (by simp) hown hgrow hat
            have hv := (show AppS shFr W0.heap.size 79 _ u5 (rowL l fun _ => (0, 1)) from ⟨L, F, hW.out⟩).ge
            have hb3 := grown_below (B := W0.heap.size) hgrow (fun q hq => (hv q hq).1) (by simp; omega)
            refine ⟨l + 1, by omega, by go_num, Lib.hid ?_, (hB2.out.trans ((bal (Below.refl _ _) _).mono hz2)).trans hb3⟩
            exact Eq.mp (congrArg (fun z : List (Int × Int) => AppS shFr W0.heap.size 79 w2 (.slice (some ⟨g1, 0, none⟩) ((rowL l fun _ => ((0, 1) : Int × Int)).length + 1) cap1) z) (rowL_succ l fun _ => ((0, 1) : Int × Int)).symm) hN
          case measure => simp [intOf]; omega
        · have e : l = n := by omega
          subst e
          obtain ⟨A1, cap1, F1, he, hO⟩ := hA1.out.own
          replace he : u5 = .slice A1 (rowL l fun _ => ((0, 1) : Int × Int)).length cap1 := he
          rw [rowL_len] at he
          subst he
          obtain ⟨L, F, hW00⟩ := hA.out
          have hW0 := hW00.move (w' := wr) (fun b _ h2 => hB1.block b h2)
          have hW := hW0.move (w' := wr.alloc (.cells #[.slice A1 l cap1] 32)) (fun b _ hl => Below.heap_alloc wr _ b hl)
          have hW := Lib.hid hW
          have hO := Lib.hid hO
          have hFb : Hid (∀ b ∈ F, b < W0.heap.size) := Lib.hid hW00.2.1.lt
          clear hW0 hW00
          go_wp2_with (at_builtin; refine wpList_append_lies _ rfl (.tmp 23) (.tmp 25) 26 rfl w.heap.size 32 i2 z2 1 24 Try.underlying26 I2.out Z2.out hs2 hb2 hl2 (by decide) u3 (matL k l fun _ _ => ((0, 1) : Int × Int)).length L rfl hW.out.1 ⟨wr.heap.size, 0, none⟩ 1 1 [.slice A1 l cap1] rfl rfl (World.news_of_block (blknew _ _)) (by simp [Value.oneCell']) (by decide) (by rw [matL_len]; unfold maxLen; omega) (by rw [matL_len]; omega) (by simp; omega) _ rfl ?_; intro g1 cap2 w2 hown hgrow hat hlt3)
          go_roundw
          case rel =>
            have hOw : (shL shFr).own (wr.alloc (.cells #[.slice A1 l cap1] 32)) (rowL l fun _ => (0, 1)) [.slice A1 l cap1] F1 := (shL shFr).ownKeep _ _ _ _ _ (fun b hb => Below.heap_alloc wr _ b (hO.out.lt b hb)) hO.out.1
            have hAo := hA.out.ge
            have hFo := hFb.out
            have hN := hW.out.next (s := shL shFr) (d := rowL l fun _ => (0, 1)) hOw hO.out.2.1 (fun b hb => by have := hO.out.2.2 b hb; omega) (fun b hb hb2 => by have := hO.out.2.2 b hb; have := hFo b hb2; omega) (fun q hq hb => by have := hO.out.2.2 q hb; have := (hAo q hq).2; omega) hown hgrow hat
            have hb2 := grown_below (B := w.heap.size) hgrow (fun q hq => (hAo q hq).1) (by simp; omega)
            refine ⟨k + 1, by omega, by go_num, Lib.hid ?_, ((bthen hB hB1).trans ((bal (Below.refl _ _) _).mono (by omega))).trans hb2⟩
            exact Eq.mp (congrArg (fun z : List (List (Int × Int)) => AppS (shL shFr) w.heap.size 32 w2 (.slice (some ⟨g1, 0, none⟩) ((matL k l fun _ _ => ((0, 1) : Int × Int)).length + 1) cap2) z) (matL_succ k l fun _ _ => ((0, 1) : Int × Int)).symm) hN
          case measure => simp [intOf]; omega
    · have e : k = n := by omega
      subst e
      obtain ⟨A1, cap1, F1, he, hO⟩ := hA.out.own
      replace he : u3 = .slice A1 (matL k k fun _ _ => ((0, 1) : Int × Int)).length cap1 := he
      rw [matL_len] at he
      subst he
      have hO := Lib.hid hO
      go_wp2_with fail
      exact bodyPost_ret (v := .slice A1 k cap1) (by simp [results, Try.results71, go_sem]) rfl ⟨A1, cap1, F1, rfl, hO.out, belA⟩
/-- Another entry at a place. -/
theorem matL_set (m n : Nat) (E : Nat → Nat → Int × Int) {i j : Nat} (hi : i < m) (hj : j < n) (d : Int × Int) : (matL m n E).set i ((rowL n (E i)).set j d) = matL m n fun a b => if a = i ∧ b = j then d else E a b := by
  apply List.ext_getElem?
  intro a
  rw [List.getElem?_set]
  by_cases ha : i = a
  · subst ha
    rw [if_pos rfl, if_pos (by rw [matL_len]; exact hi)]
    simp only [matL, List.getElem?_map]
    rw [List.getElem?_range hi]
    simp only [Option.map_some, Option.some.injEq]
    apply List.ext_getElem?
    intro b
    rw [List.getElem?_set]
    by_cases hb : j = b
    · subst hb
      rw [if_pos rfl, if_pos (by rw [rowL_len]; exact hj)]
      simp [rowL, List.getElem?_range hj]
    · rw [if_neg hb]
      simp only [rowL, List.getElem?_map]
      by_cases hbn : b < n
      · rw [List.getElem?_range hbn]; simp [Ne.symm hb]
      · rw [List.getElem?_eq_none (by simpa using hbn)]; rfl
  · rw [if_neg ha]
    simp only [matL, List.getElem?_map]
    by_cases ham : a < m
    · rw [List.getElem?_range ham]
      simp only [Option.map_some, Option.some.injEq]
      unfold rowL
      apply List.map_congr_left
      intro b _
      rw [if_neg]
      rintro ⟨rfl, _⟩
      exact ha rfl
    · rw [List.getElem?_eq_none (by simpa using ham)]; rfl
theorem matL_congr {m n : Nat} {E E' : Nat → Nat → Int × Int} (h : ∀ a, a < m → ∀ b, b < n → E a b = E' a b) : matL m n E = matL m n E' := by
  unfold matL rowL
  refine List.map_congr_left fun a ha => List.map_congr_left fun b hb => h a (by simpa using ha) b (by simpa using hb)
theorem matL_get {m n : Nat} (E : Nat → Nat → Int × Int) {i : Nat} (hi : i < m) : (matL m n E)[i]? = some (rowL n (E i)) := by simp [matL, List.getElem?_range hi]
/-- A matrix that is filled row by row, up to a place. -/
def upTo (k l : Nat) (D : Nat → Nat → Int × Int) (a b : Nat) : Int × Int := if a < k ∨ (a = k ∧ b < l) then D a b else (0, 1)
theorem upTo_zero (D : Nat → Nat → Int × Int) : upTo 0 0 D = fun _ _ => (0, 1) := by funext a b; simp [upTo]
theorem upTo_step (k l : Nat) (D : Nat → Nat → Int × Int) : (fun a b => if a = k ∧ b = l then D k l else upTo k l D a b) = upTo k (l + 1) D := by
  funext a b
  unfold upTo
  by_cases h1 : a = k ∧ b = l
  · obtain ⟨rfl, rfl⟩ := h1
    rw [if_pos ⟨rfl, rfl⟩, if_pos (.inr ⟨rfl, by omega⟩)]
  · rw [if_neg h1]
    by_cases h2 : a < k ∨ a = k ∧ b < l
    · rw [if_pos h2, if_pos (by omega)]
    · rw [if_neg h2, if_neg (by omega)]
theorem upTo_row {m n k : Nat} (D : Nat → Nat → Int × Int) : matL m n (upTo k n D) = matL m n (upTo (k + 1) 0 D) := by
  refine matL_congr fun a ha b hb => ?_
  unfold upTo
  by_cases h2 : a < k ∨ a = k ∧ b < n
  · rw [if_pos h2, if_pos (by omega)]
  · rw [if_neg h2, if_neg (by omega)]
theorem upTo_all {n : Nat} (D : Nat → Nat → Int × Int) : matL n n (upTo n 0 D) = matL n n D := matL_congr fun a ha b hb => by unfold upTo; rw [if_pos (.inl ha)]
theorem matZ_f {m n : Nat} {z : Nat → Nat → Bool} (h : ∀ a, a < m → ∀ b, b < n → z a b = false) : matZ m n z = false := by
  rw [matZ, List.any_eq_false]
  intro a ha
  rw [Bool.not_eq_true, rowZ, List.any_eq_false]
  intro b hb
  rw [Bool.not_eq_true]
  exact h a (by simpa using ha) b (by simpa using hb)
theorem matZ_t {m n : Nat} {z : Nat → Nat → Bool} {a b : Nat} (ha : a < m) (hb : b < n) (h : z a b = true) : matZ m n z = true := by
  rw [matZ, List.any_eq_true]
  exact ⟨a, by simpa using ha, by rw [rowZ, List.any_eq_true]; exact ⟨b, by simpa using hb, h⟩⟩
theorem bsz2 {w w1 : World} {p q : Addr} {u v : Value} (h : Below ((w.setCell p u).setCell q v).heap.size ((w.setCell p u).setCell q v) w1) : Below w.heap.size ((w.setCell p u).setCell q v) w1 := by
  rw [setCell_size, setCell_size] at h; exact h
/-- A place of a matrix of one's own: where it lies, and a store into it. -/
theorem mat_store {B : Nat} {w : World} {n k l cap : Nat} {E : Nat → Nat → Int × Int} {A : Option Addr} {F : List Nat} (h : Own (shL shFr) B w (matL n n E) (.slice A n cap) F) (hk : k < n) (hl : l < n) :
    ∃ g2 g3 cap4, A = some ⟨g2, 0, none⟩ ∧ n ≤ cap ∧ n ≤ cap4 ∧ g2 < w.heap.size ∧ g3 < w.heap.size ∧ B ≤ g3 ∧ g2 ≠ g3 ∧ w.cell? ⟨g2, k, none⟩ = some (.slice (some ⟨g3, 0, none⟩) n cap4) ∧ w.frozen? ⟨g3, l * 2, none⟩ = false ∧ w.frozen? ⟨g3, l * 2 + 1, none⟩ = false ∧
      (∃ u, w.cell? ⟨g3, l * 2, none⟩ = some u) ∧ (∃ u, w.cell? ⟨g3, l * 2 + 1, none⟩ = some u) ∧
      ∀ (z : Int × Int) (W' : World), okFr z → Below w.heap.size ((w.setCell ⟨g3, l * 2, none⟩ (.int .i64 z.1)).setCell ⟨g3, l * 2 + 1, none⟩ (.int .i64 z.2)) W' →
        Own (shL shFr) B W' (matL n n fun a b => if a = k ∧ b = l then z else E a b) (.slice A n cap) F := by
  obtain ⟨g2, cap3, Fi, vi, hv, c0, f0, hOi, hsub, hgi, hgF, hback⟩ := h.rowFr (matL_get _ hk)
  have hlr : l < (rowL n (E k)).length := by rw [rowL_len]; exact hl
  obtain ⟨g3, cap4, hv2, rfl, f3, f4, e3, e4, hg3, hput⟩ := hOi.put hlr
  rw [rowL_len] at hv2
  subst hv2
  have hA : A = some ⟨g2, 0, none⟩ := by injection hv
  subst hA
  have hcap4 : n ≤ cap4 := by obtain ⟨_, _, he, hcc, _⟩ := rep_slice hOi.lst; injection he with he1 he2 he3; rw [← he2, ← he3] at hcc; exact hcc
  have hcap : n ≤ cap := by obtain ⟨_, _, he, hcc, _⟩ := rep_slice h.lst; injection he with he1 he2 he3; rw [← he2, ← he3] at hcc; exact hcc
  refine ⟨g2, g3, cap4, rfl, hcap, hcap4, World.block_lt_of_cell? _ _ c0, hg3, hOi.ge g3 (by simp), fun e => hgi (by simp [e]), c0, f3, f4, e3, e4, fun z W' hz hb => ?_⟩
  have hrow := hput z hz
  have hall := hback W' _ (fun b hlt hn => (hb.block b hlt).trans (by rw [Below.heap_setCell _ _ _ b (fun e => hn (by simp at e; simp [e])), Below.heap_setCell _ _ _ b (fun e => hn (by simp at e; simp [e]))])) (hrow.move (Nat.le_refl _) (fun b _ hlt => by rw [setCell_size, setCell_size] at hlt; exact hb.block b hlt))
  refine Eq.mp (congrArg (fun M : List (List (Int × Int)) => Own (shL shFr) B W' M _ F) ?_) hall
  exact matL_set _ _ _ hk hl z
set_option maxHeartbeats 2000000 in
theorem l02AddAll_any (w : World) (xss yss : List (List (Int × Int))) (v v' : Value) (h : Lst (shL shFr) w xss v) (h' : Lst (shL shFr) w yss v') (hl : xss.length = yss.length)
    (hM : SqM xss) (hM' : SqM yss) :
    Calls Try.prog 85 #[v, v'] w fun e w' => MatRet w.heap.size (mR 0 (addMO xss yss)) (mC 0 (addMO xss yss)) e w' ∧ Below w.heap.size w w' := by
  obtain ⟨A0, cap0, rfl, hc0, hm0⟩ := formFrSS h
  obtain ⟨A1, cap1, rfl, hc1, hm1⟩ := formFrSS h'
  unfold maxLen at hm0 hm1
  have HL := Lib.hid hl
  have HM := Lib.hid hM
  have HM' := Lib.hid hM'
  have hn8 := hM.1
  clear hl hM hM'
  go_enter Try.func85, Try.ntmps85
  go_wp2_with fail
  refine Calls.mono (l02Empty_any _ xss.length (by omega)) ?_
  rintro e0 w1 ⟨A2, cap2, F2, rfl, hO2, hb⟩
  obtain ⟨X2, m2, rfl⟩ := plsOf hb
  clear hb
  have hO2 := Lib.hid hO2
  go_wp2_with fail
  go_loopw [7] (fun i wr => ∃ (k : Nat), k ≤ xss.length ∧ i = .int .i64 k ∧ Hid (Own (shL shFr) w.heap.size wr (matL xss.length xss.length (upTo k 0 fun i j => kD (addO (at2 xss i j) (at2 yss i j)))) (.slice A2 xss.length cap2) F2) ∧ Hid (∀ a, a < k → ∀ b, b < xss.length → noB (addO (at2 xss a b) (at2 yss a b)) = false) ∧ Below w.heap.size w wr) (fun i _ => xss.length - (intOf i).toNat)
  case atStart => exact ⟨0, Nat.zero_le _, rfl, Lib.hid (by rw [upTo_zero]; exact hO2.out), Lib.hid (fun a ha => absurd ha (Nat.not_lt_zero a)), belA⟩
  case round =>
    obtain ⟨k, hk, rfl, hO, hZ, hB⟩ := hrel
    clear hO2
    by_cases hlt : k < xss.length
    · have hk8 : (k : Int) < 9223372036854775807 := by omega
      go_wp2_with fail
      obtain ⟨W0, rfl⟩ : ∃ x, x = wr := ⟨_, rfl⟩
      go_loopw [8] (fun j wr => ∃ (l : Nat), l ≤ xss.length ∧ j = .int .i64 l ∧ Hid (Own (shL shFr) w.heap.size wr (matL xss.length xss.length (upTo k l fun i j => kD (addO (at2 xss i j) (at2 yss i j)))) (.slice A2 xss.length cap2) F2) ∧ Hid (∀ b, b < l → noB (addO (at2 xss k b) (at2 yss k b)) = false) ∧ Below w.heap.size w wr) (fun j _ => xss.length - (intOf j).toNat)
      case atStart => exact ⟨0, Nat.zero_le _, rfl, hO, Lib.hid (fun a ha => absurd ha (Nat.not_lt_zero a)), belA⟩
      case round =>
        obtain ⟨l, hll, rfl, hOl, hZl, hBl⟩ := hrel
        by_cases hlt2 : l < xss.length
        · have hl8 : (l : Int) < 9223372036854775807 := by omega
          have hky : k < yss.length := by have := HL.out; omega
          have hly : l < yss.length := by have := HL.out; omega
          obtain ⟨a1, o1, r1, p1, d1, rfl, k1, k3, za1, zr1, hx, q1, x1, x2⟩ := mat_at h HM.out hlt hlt2
          obtain ⟨a2, o2, r2, p2, d2, rfl, k2, k4, za2, zr2, hy, q2, y1, y2⟩ := mat_at h' HM'.out hky hly
          have hz := hBl.size
          replace q1 := bkeep hBl q1
          replace q2 := bkeep hBl q2
          replace x1 := bkeep hBl x1
          replace x2 := bkeep hBl x2
          replace y1 := bkeep hBl y1
          replace y2 := bkeep hBl y2
          have zb1 : a1 < wr.heap.size := by omega
          have zb2 : a2 < wr.heap.size := by omega
          have zb3 : r1 < wr.heap.size := by omega
          have zb4 : r2 < wr.heap.size := by omega
          have hxi := Lib.hid hx
          have hyi := Lib.hid hy
          cases hzz : addO (at2 xss k l) (at2 yss k l) with
          | none =>
            have hr : Hid (addMO xss yss = none) := Lib.hid (matO_t (matZ_t hlt hlt2 (by rw [hzz]; rfl)))
            go_wp2_with fail
            go_region_held3 (fun w' => w'.cell? ⟨a1, o1 + k, none⟩ = some (.slice (some ⟨r1, p1, none⟩) xss.length d1) ∧ w'.cell? ⟨a2, o2 + k, none⟩ = some (.slice (some ⟨r2, p2, none⟩) yss.length d2) ∧ w'.cell? ⟨r1, p1 + l * 2, none⟩ = some (.int .i64 (at2 xss k l).1) ∧ w'.cell? ⟨r1, p1 + l * 2 + 1, none⟩ = some (.int .i64 (at2 xss k l).2) ∧ w'.cell? ⟨r2, p2 + l * 2, none⟩ = some (.int .i64 (at2 yss k l).1) ∧ w'.cell? ⟨r2, p2 + l * 2 + 1, none⟩ = some (.int .i64 (at2 yss k l).2)) (simp [*, go_sem]) (first | (go_at_call 128; refine Calls.mono (radd_any _ _ _ hxi.out hyi.out) ?_; rintro e w1 ⟨rfl, hb⟩; obtain ⟨X, m, rfl⟩ := plsOf hb; clear hb))
            all_goals (go_wp2_with fail)
            all_goals (
              refine bodyPost_ret (v := .tuple #[.slice (some ⟨_, 0, none⟩) 0 0, .int .i64 3]) (by simp [results, Try.results85, go_sem, *]; rfl) rfl ⟨?_, belA⟩
              rw [hr.out]
              exact ⟨_, 0, [], rfl, Own.nil _ _ _ 0 (Nat.zero_le _) _⟩)
          | some z =>
            obtain ⟨g2, g3, cap4, rfl, hcap, hcap4, hg2, hg3, hge, hgn, c0, f3, f4, ⟨v3, e3⟩, ⟨v4, e4⟩, hput⟩ := mat_store hOl.out hlt hlt2
            have hput := Lib.hid hput
            clear hOl
            go_wp2_with fail
            go_region_held3 (fun w' => w'.cell? ⟨a1, o1 + k, none⟩ = some (.slice (some ⟨r1, p1, none⟩) xss.length d1) ∧ w'.cell? ⟨a2, o2 + k, none⟩ = some (.slice (some ⟨r2, p2, none⟩) yss.length d2) ∧ w'.cell? ⟨r1, p1 + l * 2, none⟩ = some (.int .i64 (at2 xss k l).1) ∧ w'.cell? ⟨r1, p1 + l * 2 + 1, none⟩ = some (.int .i64 (at2 xss k l).2) ∧ w'.cell? ⟨r2, p2 + l * 2, none⟩ = some (.int .i64 (at2 yss k l).1) ∧ w'.cell? ⟨r2, p2 + l * 2 + 1, none⟩ = some (.int .i64 (at2 yss k l).2)) (simp [*, go_sem]) (first | (go_at_call 128; refine Calls.mono (radd_any _ _ _ hxi.out hyi.out) ?_; rintro e w1 ⟨rfl, hb⟩; obtain ⟨X, m, rfl⟩ := plsOf hb; clear hb))
            all_goals (go_wp2_with fail)
            all_goals (go_region)
            all_goals (go_wp2_with fail)
            all_goals (
              go_roundw
              case rel =>
                refine ⟨l + 1, by omega, by go_num, Lib.hid ?_, Lib.hid (fun b hb => ?_), belA⟩
                · rw [← upTo_step, show kD (addO (at2 xss k l) (at2 yss k l)) = z by rw [hzz]; rfl]
                  exact hput.out z _ (inF_ok (addO_in hxi.out.2.2.1 hyi.out.2.2.1 hzz)) (bsz2 (by repeat (first | exact Below.refl _ _ | refine bpl ?_ _ _ | refine bal ?_ _ | refine bdrew1 ?_ | refine bdrew ?_ _)))
                · rcases Nat.lt_or_ge b l with h1 | h1
                  · exact hZl.out b h1
                  · have : b = l := by omega
                    subst this
                    rw [hzz]; rfl
              case measure => simp [intOf]; omega)
        · have e : l = xss.length := by omega
          subst e
          go_wp2_with fail
          go_roundw
          case rel =>
            refine ⟨k + 1, by omega, by go_num, Lib.hid ?_, Lib.hid (fun a ha b hb => ?_), belA⟩
            · rw [← upTo_row]
              exact hOl.out
            · rcases Nat.lt_or_ge a k with h1 | h1
              · exact hZ.out a h1 b hb
              · have : a = k := by omega
                subst this
                exact hZl.out b hb
          case measure => simp [intOf]; omega
    · have e : k = xss.length := by omega
      have hr : Hid (addMO xss yss = some (matL xss.length xss.length fun i j => kD (addO (at2 xss i j) (at2 yss i j)))) := Lib.hid (matO_f (matZ_f fun a ha b hb => hZ.out a (by omega) b hb))
      subst e
      have hO2 : Hid (Own (shL shFr) w.heap.size wr (matL xss.length xss.length fun i j => kD (addO (at2 xss i j) (at2 yss i j))) (.slice A2 xss.length cap2) F2) := Lib.hid (by rw [← upTo_all]; exact hO.out)
      go_wp2_with fail
      refine bodyPost_ret (v := .tuple #[.slice A2 xss.length cap2, .int .i64 0]) (by simp [results, Try.results85, go_sem, *]) rfl ⟨?_, belA⟩
      rw [hr.out]
      exact MatRet.some (matL_len _ _ _) hO2.out
end Go.Proofs.Ytekchdgpaemofaa
