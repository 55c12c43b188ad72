/- Forbidden graphs; valid statements, impl and spec. -/
import Derived.Test.YtpcjinbbgnmchaaGreatVr
import Derived.Test.YtpcjinbbgnmchaaGreatVt
import Derived.Test.YtpcjinbbgnmchaaGreatFb
namespace Go.Proofs.YtpcjinbbgnmchaaGreat
open Go.ChangeShapes Go.WideShapes Go.RowKit
set_option linter.unusedVariables false
set_option linter.unusedSimpArgs false
attribute [local irreducible] Calls
/-- A valid statement. -/
def stOk (gs : List (Int × Int)) (tn te s : Int) (xs : List Trm) (p q : Int) : Bool := (forbC gs == 0) && sumOk tn te s xs && (tn == 0) && frOk p q
set_option maxHeartbeats 2000000 in
theorem ValidStatement_any (w : World) (gs : List (Int × Int)) (tn te s : Int) (xs : List Trm) (p q : Int) (v u : Value) (h : Lst shGr w gs v) (hx : Lst shTerm w xs u) (he : 0 ≤ te ∧ te ≤ 4294967295) (hp : okI .i64 p) (hq : okI .i64 q) (hl : gs.length ≤ 1048576) :
    Calls Tryz.prog 58 #[.agg #[v, .int .i64 tn, .int .u32 te, .int .i64 s, u, .int .i64 p, .int .i64 q]] w fun e w' => e = .returned (.bool (stOk gs tn te s xs p q)) ∧ Below w.heap.size w w' := by
  obtain ⟨A, cap, rfl, _, _⟩ := formGraph h
  obtain ⟨A2, cap2, rfl, _, _⟩ := formTerm hx
  obtain ⟨i1, i2⟩ := i64_wf hp
  obtain ⟨i3, i4⟩ := i64_wf hq
  have H := Lib.hid h
  have HX := Lib.hid hx
  clear h hx hp hq
  cases g1 : (forbC gs == 0)
  · have hr : Hid (stOk gs tn te s xs p q = false) := Lib.hid (by simp [stOk, g1])
    obtain ⟨c, hc, hc0⟩ : ∃ c, forbC gs = c ∧ (c == 0) = false := ⟨_, rfl, g1⟩
    have G1 := Lib.hid hc
    clear g1 hc
    go_enter Tryz.func58, Tryz.ntmps58
    go_wp2_with (first | (go_at_call 124; refine Calls.mono (forbiddenOk_any _ gs _ (H.out.below belA) hl) ?_; rw [G1.out]; rintro e w1 ⟨rfl, hb⟩; obtain ⟨X, m, rfl⟩ := plsOf hb; clear hb))
    exact bodyPost_ret (v := .bool false) (by simp [results, Tryz.results58, go_sem]) rfl ⟨by rw [hr.out], belA⟩
  have G1 : Hid (forbC gs = 0) := Lib.hid (by simpa using g1)
  clear g1
  cases g2 : sumOk tn te s xs
  · have hr : Hid (stOk gs tn te s xs p q = false) := Lib.hid (by simp [stOk, g2])
    have G2 := Lib.hid g2
    clear g2
    go_enter Tryz.func58, Tryz.ntmps58
    go_wp2_with (first | (go_at_call 124; refine Calls.mono (forbiddenOk_any _ gs _ (H.out.below belA) hl) ?_; rw [G1.out]; rintro e w1 ⟨rfl, hb⟩; obtain ⟨X, m, rfl⟩ := plsOf hb; clear hb) | (go_at_call 35; refine Calls.mono (ValidSum_any _ tn te s xs _ (HX.out.below belA) he) ?_; rw [G2.out]; rintro e w1 ⟨rfl, hb⟩; obtain ⟨X, m, rfl⟩ := plsOf hb; clear hb))
    exact bodyPost_ret (v := .bool false) (by simp [results, Tryz.results58, go_sem]) rfl ⟨by rw [hr.out], belA⟩
  have G2 := Lib.hid g2
  clear g2
  cases g3 : (tn == 0)
  · have hr : Hid (stOk gs tn te s xs p q = false) := Lib.hid (by simp [stOk, g3])
    go_enter Tryz.func58, Tryz.ntmps58
    go_wp2_with (first | (go_at_call 124; refine Calls.mono (forbiddenOk_any _ gs _ (H.out.below belA) hl) ?_; rw [G1.out]; rintro e w1 ⟨rfl, hb⟩; obtain ⟨X, m, rfl⟩ := plsOf hb; clear hb) | (go_at_call 35; refine Calls.mono (ValidSum_any _ tn te s xs _ (HX.out.below belA) he) ?_; rw [G2.out]; rintro e w1 ⟨rfl, hb⟩; obtain ⟨X, m, rfl⟩ := plsOf hb; clear hb))
    exact bodyPost_ret (v := .bool false) (by simp [results, Tryz.results58, go_sem]) rfl ⟨by rw [hr.out], belA⟩
  have hr : Hid (stOk gs tn te s xs p q = frOk p q) := Lib.hid (by simp [stOk, G1.out, G2.out, g3])
  have G4 : Hid (frOk p q = frOk p q) := Lib.hid rfl
  go_enter Tryz.func58, Tryz.ntmps58
  go_wp2_with (first | (go_at_call 124; refine Calls.mono (forbiddenOk_any _ gs _ (H.out.below belA) hl) ?_; rw [G1.out]; rintro e w1 ⟨rfl, hb⟩; obtain ⟨X, m, rfl⟩ := plsOf hb; clear hb) | (go_at_call 35; refine Calls.mono (ValidSum_any _ tn te s xs _ (HX.out.below belA) he) ?_; rw [G2.out]; rintro e w1 ⟨rfl, hb⟩; obtain ⟨X, m, rfl⟩ := plsOf hb; clear hb) | (go_at_call 88; refine Calls.mono (valid_any _ _ _ i1 i2 i3 i4) ?_; rintro e w1 ⟨rfl, hb⟩; obtain ⟨X, m, rfl⟩ := plsOf hb; clear hb))
  exact bodyPost_ret (v := .bool (frOk p q)) (by simp [results, Tryz.results58, go_sem]) rfl ⟨by rw [hr.out], belA⟩
set_option maxHeartbeats 4000000 in
theorem l06Statement_any (w : World) (bs : Nat) (gs : List (Int × Int)) (tn te s : Int) (xs : List Trm) (p q : Int) (v u : Value) (hb0 : w.heap[bs]? = some (.cells #[v, .int .i64 tn, .int .u32 te, .int .i64 s, u, .int .i64 p, .int .i64 q] 55 (0, 0))) (h : Lst shGr w gs v) (hx : Lst shTerm w xs u) (he : 0 ≤ te ∧ te ≤ 4294967295) (hp : okI .i64 p) (hq : okI .i64 q) :
    Calls Tryz.prog 119 #[.pointer (some ⟨bs, 0, none⟩)] w fun e w' => e = .returned (.bool (stOk gs tn te s xs p q)) ∧ Below w.heap.size w w' := by
  obtain ⟨A, cap, rfl, _, _⟩ := formGraph h
  obtain ⟨A2, cap2, rfl, _, _⟩ := formTerm hx
  obtain ⟨i1, i2⟩ := i64_wf hp
  obtain ⟨i3, i4⟩ := i64_wf hq
  have H := Lib.hid h
  have HX := Lib.hid hx
  clear h hx hp hq
  obtain ⟨s0, s1, s2, s3, s4, s5, s6⟩ := blkc7 hb0
  have zb := blklt hb0
  clear hb0
  cases g1 : (forbC gs == 0)
  · have hr : Hid (stOk gs tn te s xs p q = false) := Lib.hid (by simp [stOk, g1])
    obtain ⟨c, hc, hc0⟩ : ∃ c, forbC gs = c ∧ (c == 0) = false := ⟨_, rfl, g1⟩
    have G1 := Lib.hid hc
    clear g1 hc
    go_enter Tryz.func119, Tryz.ntmps119
    go_wp2_with (first | (go_at_call 145; refine Calls.mono (l01Forbidden_any _ gs _ (H.out.below belA)) ?_; rw [G1.out]; rintro e w1 ⟨rfl, hb⟩; obtain ⟨X, m, rfl⟩ := plsOf hb; clear hb))
    exact bodyPost_ret (v := .bool false) (by simp [results, Tryz.results119, go_sem]) rfl ⟨by rw [hr.out], belA⟩
  have G1 : Hid (forbC gs = 0) := Lib.hid (by simpa using g1)
  clear g1
  cases g2 : sumOk tn te s xs
  · have hr : Hid (stOk gs tn te s xs p q = false) := Lib.hid (by simp [stOk, g2])
    have G2 := Lib.hid g2
    clear g2
    go_enter Tryz.func119, Tryz.ntmps119
    go_wp2_with (first | (go_at_call 145; refine Calls.mono (l01Forbidden_any _ gs _ (H.out.below belA)) ?_; rw [G1.out]; rintro e w1 ⟨rfl, hb⟩; obtain ⟨X, m, rfl⟩ := plsOf hb; clear hb) | (go_at_call 30; refine Calls.mono (l05Ok_at _ bs 1 tn te s xs _ (by simp [*, go_sem]) (by simp [*, go_sem]) (by simp [*, go_sem]) (by simp [*, go_sem]) (HX.out.below belA) he) ?_; rw [G2.out]; rintro e w1 ⟨rfl, hb⟩; obtain ⟨X, m, rfl⟩ := plsOf hb; clear hb))
    exact bodyPost_ret (v := .bool false) (by simp [results, Tryz.results119, go_sem]) rfl ⟨by rw [hr.out], belA⟩
  have G2 := Lib.hid g2
  clear g2
  cases g3 : (tn == 0)
  · have hr : Hid (stOk gs tn te s xs p q = false) := Lib.hid (by simp [stOk, g3])
    go_enter Tryz.func119, Tryz.ntmps119
    go_wp2_with (first | (go_at_call 145; refine Calls.mono (l01Forbidden_any _ gs _ (H.out.below belA)) ?_; rw [G1.out]; rintro e w1 ⟨rfl, hb⟩; obtain ⟨X, m, rfl⟩ := plsOf hb; clear hb) | (go_at_call 30; refine Calls.mono (l05Ok_at _ bs 1 tn te s xs _ (by simp [*, go_sem]) (by simp [*, go_sem]) (by simp [*, go_sem]) (by simp [*, go_sem]) (HX.out.below belA) he) ?_; rw [G2.out]; rintro e w1 ⟨rfl, hb⟩; obtain ⟨X, m, rfl⟩ := plsOf hb; clear hb))
    exact bodyPost_ret (v := .bool false) (by simp [results, Tryz.results119, go_sem]) rfl ⟨by rw [hr.out], belA⟩
  have hr : Hid (stOk gs tn te s xs p q = frOk p q) := Lib.hid (by simp [stOk, G1.out, G2.out, g3])
  have G4 : Hid (frOk p q = frOk p q) := Lib.hid rfl
  go_enter Tryz.func119, Tryz.ntmps119
  go_wp2_with (first | (go_at_call 145; refine Calls.mono (l01Forbidden_any _ gs _ (H.out.below belA)) ?_; rw [G1.out]; rintro e w1 ⟨rfl, hb⟩; obtain ⟨X, m, rfl⟩ := plsOf hb; clear hb) | (go_at_call 30; refine Calls.mono (l05Ok_at _ bs 1 tn te s xs _ (by simp [*, go_sem]) (by simp [*, go_sem]) (by simp [*, go_sem]) (by simp [*, go_sem]) (HX.out.below belA) he) ?_; rw [G2.out]; rintro e w1 ⟨rfl, hb⟩; obtain ⟨X, m, rfl⟩ := plsOf hb; clear hb) | (go_at_call 76; refine Calls.mono (sok_any _ _ _ i1 i2 i3 i4) ?_; rintro e w1 ⟨rfl, hb⟩; obtain ⟨X, m, rfl⟩ := plsOf hb; clear hb))
  exact bodyPost_ret (v := .bool (frOk p q)) (by simp [results, Tryz.results119, go_sem]) rfl ⟨by rw [hr.out], belA⟩
end Go.Proofs.YtpcjinbbgnmchaaGreat
