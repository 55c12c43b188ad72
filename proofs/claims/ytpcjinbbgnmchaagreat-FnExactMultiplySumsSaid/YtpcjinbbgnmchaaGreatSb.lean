/- spec.AllFlags. -/
import Derived.Test.YtpcjinbbgnmchaaGreatSa
import Derived.Test.YtpcjinbbgnmchaaGreatFb
namespace Go.Proofs.YtpcjinbbgnmchaaGreat
open Go.ChangeShapes Go.WideShapes Go.RowKit
set_option linter.unusedVariables false
set_option linter.unusedSimpArgs false
attribute [local irreducible] Calls
/-- The code of a list of all flags. -/
def afC (tn te n : Int) (gs : List (Int × Int)) : Int := if grOk tn te then (if forbC gs = 0 then (if spOk tn n then (if (flagsL tn.toNat te n.toNat gs).length ≤ 64 then 0 else 3) else 2) else forbC gs) else 1
def afL (tn te n : Int) (gs : List (Int × Int)) : List shFlag.T := if afC tn te n gs = 0 then flagsF tn.toNat te n.toNat gs else []
/-- Flags and a code are handed out. -/
def FlsCode (B : Nat) (w : World) (L : List shFlag.T) (c : Int) (e : Ending) (w' : World) : Prop := ∃ A cap F, e = .returned (.tuple #[.slice A L.length cap, .int .i64 c]) ∧ Own shFlag B w' L (.slice A L.length cap) F ∧ Below w.heap.size w w'
theorem flsCode_no (w w' : World) (L : List shFlag.T) (p : Option Addr) (c c' : Int) (hL : L = []) (hc : c = c') (hb : Below w.heap.size w w') : FlsCode w.heap.size w L c (.returned (.tuple #[.slice p 0 0, .int .i64 c'])) w' := by
  subst hL hc
  exact ⟨p, 0, [], rfl, Own.nil _ _ _ 0 (Nat.zero_le _) _, hb⟩
set_option maxHeartbeats 4000000 in
theorem sAllFlags_any (w : World) (tn te n : Int) (gs : List (Int × Int)) (v : Value) (h : Lst shGr w gs v) (he : 0 ≤ te ∧ te ≤ 4294967295) :
    Calls Tryz.prog 77 #[.agg #[.int .i64 tn, .int .u32 te], .int .i64 n, v] w (FlsCode w.heap.size w (afL tn te n gs) (afC tn te n gs)) := by
  obtain ⟨A, cap, rfl, hcp, hmx⟩ := formGraph h
  have H := Lib.hid h
  clear h
  cases h1 : grOk tn te
  · have hc : Hid (afC tn te n gs = 1) := Lib.hid (by simp [afC, h1])
    have hl : Hid (afL tn te n gs = []) := Lib.hid (by unfold afL; rw [hc.out]; rfl)
    have H1 := Lib.hid h1
    clear h1
    go_enter Tryz.func77, Tryz.ntmps77
    go_wp2_with (first | (go_at_call 71; refine Calls.mono (l01Ok_any _ _ _ he) ?_; rw [H1.out]; rintro e w1 ⟨rfl, hb⟩; obtain ⟨X, m, rfl⟩ := plsOf hb; clear hb))
    exact bodyPost_ret (v := .tuple #[.slice (some ⟨_, 0, none⟩) 0 0, .int .i64 1]) (by simp [results, Tryz.results77, go_sem] <;> rfl) rfl (flsCode_no _ _ _ _ _ _ hl.out hc.out belA)
  · have H1 := Lib.hid h1
    rcases forbC_cases gs with h2 | h2 | h2
    rotate_left
    · have hc : Hid (afC tn te n gs = 1) := Lib.hid (by simp [afC, h1, h2])
      have hl : Hid (afL tn te n gs = []) := Lib.hid (by unfold afL; rw [hc.out]; rfl)
      have H2 := Lib.hid h2
      clear h1 h2
      go_enter Tryz.func77, Tryz.ntmps77
      go_wp2_with (first | (go_at_call 71; refine Calls.mono (l01Ok_any _ _ _ he) ?_; rw [H1.out]; rintro e w1 ⟨rfl, hb⟩; obtain ⟨X, m, rfl⟩ := plsOf hb; clear hb) | (go_at_call 145; refine Calls.mono (l01Forbidden_any _ gs _ (H.out.below belA)) ?_; rw [H2.out]; rintro e w1 ⟨rfl, hb⟩; obtain ⟨X, m, rfl⟩ := plsOf hb; clear hb))
      exact bodyPost_ret (v := .tuple #[.slice (some ⟨_, 0, none⟩) 0 0, .int .i64 1]) (by simp [results, Tryz.results77, go_sem] <;> rfl) rfl (flsCode_no _ _ _ _ _ _ hl.out hc.out belA)
    · have hc : Hid (afC tn te n gs = 3) := Lib.hid (by simp [afC, h1, h2])
      have hl : Hid (afL tn te n gs = []) := Lib.hid (by unfold afL; rw [hc.out]; rfl)
      have H2 := Lib.hid h2
      clear h1 h2
      go_enter Tryz.func77, Tryz.ntmps77
      go_wp2_with (first | (go_at_call 71; refine Calls.mono (l01Ok_any _ _ _ he) ?_; rw [H1.out]; rintro e w1 ⟨rfl, hb⟩; obtain ⟨X, m, rfl⟩ := plsOf hb; clear hb) | (go_at_call 145; refine Calls.mono (l01Forbidden_any _ gs _ (H.out.below belA)) ?_; rw [H2.out]; rintro e w1 ⟨rfl, hb⟩; obtain ⟨X, m, rfl⟩ := plsOf hb; clear hb))
      exact bodyPost_ret (v := .tuple #[.slice (some ⟨_, 0, none⟩) 0 0, .int .i64 3]) (by simp [results, Tryz.results77, go_sem] <;> rfl) rfl (flsCode_no _ _ _ _ _ _ hl.out hc.out belA)
    obtain ⟨hgl, hgs⟩ := forbC_ok h2
    have HGS := Lib.hid hgs
    have H2 := Lib.hid h2
    by_cases h3 : 3 < tn
    · have hc : Hid (afC tn te n gs = 2) := Lib.hid (by have : ¬ tn ≤ 3 := by omega
                                                        simp [afC, h1, h2, spOk, this])
      have hl : Hid (afL tn te n gs = []) := Lib.hid (by unfold afL; rw [hc.out]; rfl)
      clear h1 h2 hgs
      go_enter Tryz.func77, Tryz.ntmps77
      go_wp2_with (first | (go_at_call 71; refine Calls.mono (l01Ok_any _ _ _ he) ?_; rw [H1.out]; rintro e w1 ⟨rfl, hb⟩; obtain ⟨X, m, rfl⟩ := plsOf hb; clear hb) | (go_at_call 145; refine Calls.mono (l01Forbidden_any _ gs _ (H.out.below belA)) ?_; rw [H2.out]; rintro e w1 ⟨rfl, hb⟩; obtain ⟨X, m, rfl⟩ := plsOf hb; clear hb))
      exact bodyPost_ret (v := .tuple #[.slice (some ⟨_, 0, none⟩) 0 0, .int .i64 2]) (by simp [results, Tryz.results77, go_sem] <;> rfl) rfl (flsCode_no _ _ _ _ _ _ hl.out hc.out belA)
    have h3' : tn ≤ 3 := by omega
    cases h4 : inB n tn 5
    · have hc : Hid (afC tn te n gs = 2) := Lib.hid (by simp [afC, h1, h2, spOk, h4])
      have hl : Hid (afL tn te n gs = []) := Lib.hid (by unfold afL; rw [hc.out]; rfl)
      have H4 := Lib.hid h4
      clear h1 h2 hgs h4
      go_enter Tryz.func77, Tryz.ntmps77
      go_wp2_with (first | (go_at_call 121; refine Calls.mono ((H4.out ▸ sin_any n tn 5 _)) ?_; rintro e w1 ⟨rfl, rfl⟩) | (go_at_call 71; refine Calls.mono (l01Ok_any _ _ _ he) ?_; rw [H1.out]; rintro e w1 ⟨rfl, hb⟩; obtain ⟨X, m, rfl⟩ := plsOf hb; clear hb) | (go_at_call 145; refine Calls.mono (l01Forbidden_any _ gs _ (H.out.below belA)) ?_; rw [H2.out]; rintro e w1 ⟨rfl, hb⟩; obtain ⟨X, m, rfl⟩ := plsOf hb; clear hb))
      exact bodyPost_ret (v := .tuple #[.slice (some ⟨_, 0, none⟩) 0 0, .int .i64 2]) (by simp [results, Tryz.results77, go_sem] <;> rfl) rfl (flsCode_no _ _ _ _ _ _ hl.out hc.out belA)
    have H4 := Lib.hid h4
    obtain ⟨tN, hT, nN, hN, h5, h6⟩ : ∃ tN : Nat, tn = (tN : Int) ∧ ∃ nN : Nat, n = (nN : Int) ∧ tN ≤ nN ∧ nN ≤ 5 := by
      simp [grOk, inB] at h1 h4
      exact ⟨tn.toNat, by omega, n.toNat, by omega, by omega, by omega⟩
    have hlim : Hid (te < limN tN) := Lib.hid (by subst hT; simp [grOk] at h1; exact h1.2)
    subst hT hN
    have hcl : Hid (afC tN te nN gs = if (flagsL tN te nN gs).length ≤ 64 then 0 else 3) := Lib.hid (by simp [afC, h1, h2, spOk, h3', h4])
    have h5' : (tN : Int) ≤ 3 := h3'
    have ht3 : tN ≤ 3 := by omega
    obtain ⟨hte, hte2⟩ := he
    clear h1 h2 hgs h4 h3 h3' hcp
    have hle : (flagsL tN te nN gs).length ≤ 1024 := flagsL_len tN te nN h6 gs
    have hml : List.length (α := shFlag.T) (flagsF tN te nN gs) = (flagsL tN te nN gs).length := List.length_map _
    have hAll : Hid (∀ W, Below w.heap.size w W → Calls Tryz.prog 146 #[.agg #[.int .i64 tN, .int .u32 te], .int .i64 nN, .slice A gs.length cap] W (FlsRet W.heap.size W (flagsF tN te nN gs))) := Lib.hid fun W hW => l03All_any W tN nN te gs _ (H.out.below hW) ht3 h5 h6 (by omega) HGS.out hte hlim.out
    obtain ⟨L, hL, K, hK, hLK⟩ : ∃ L : List shFlag.T, Hid ((show List shFlag.T from flagsF tN te nN gs) = L) ∧ ∃ K : Nat, Hid ((flagsL tN te nN gs).length = K) ∧ Hid (L.length = K) := ⟨_, Lib.hid rfl, _, Lib.hid rfl, Lib.hid hml⟩
    have hK2 : K ≤ 1024 := by rw [← hK.out]; exact hle
    clear hml hle
    go_enter Tryz.func77, Tryz.ntmps77
    go_wp2_with (first | (go_at_call 121; refine Calls.mono ((H4.out ▸ sin_any nN tN 5 _)) ?_; rintro e w1 ⟨rfl, rfl⟩) | (go_at_call 71; refine Calls.mono (l01Ok_any _ _ _ ⟨hte, hte2⟩) ?_; rw [H1.out]; rintro e w1 ⟨rfl, hb⟩; obtain ⟨X, m, rfl⟩ := plsOf hb; clear hb) | (go_at_call 145; refine Calls.mono (l01Forbidden_any _ gs _ (H.out.below belA)) ?_; rw [H2.out]; rintro e w1 ⟨rfl, hb⟩; obtain ⟨X, m, rfl⟩ := plsOf hb; clear hb))
    refine Calls.mono (hAll.out _ belA) ?_
    rintro e0 w1 ⟨A1, cap1, F1, rfl, hO1, hb⟩
    have hO : Own shFlag w.heap.size w1 L (.slice A1 K cap1) F1 := by
      have := hO1.below (B' := w.heap.size) (by simp; omega) (Below.refl _ _)
      rw [hL.out, hLK.out] at this
      exact this
    rw [hL.out, hLK.out]
    have hb1 : Below w.heap.size w w1 := Below.trans belA (hb.mono (by simp; omega))
    have HO := Lib.hid hO
    have HB := Lib.hid hb1
    clear hO1 hb hO hb1
    by_cases h64 : K ≤ 64
    · have hc : Hid (afC tN te nN gs = 0) := Lib.hid (by rw [hcl.out, hK.out, if_pos h64])
      have hl : Hid (afL tN te nN gs = L) := Lib.hid (by unfold afL; rw [hc.out]; exact hL.out)
      have h64' : (K : Int) ≤ 64 := by omega
      go_wp2_with fail
      refine bodyPost_ret (v := .tuple #[.slice A1 K cap1, .int .i64 0]) (by simp [results, Tryz.results77, go_sem]) rfl ?_
      rw [hl.out, hc.out]
      exact ⟨A1, cap1, F1, by rw [hLK.out], by rw [hLK.out]; exact HO.out, HB.out⟩
    · have hc : Hid (afC tN te nN gs = 3) := Lib.hid (by rw [hcl.out, hK.out, if_neg h64])
      have hl : Hid (afL tN te nN gs = []) := Lib.hid (by unfold afL; rw [hc.out]; rfl)
      have h64' : (64 : Int) < K := by omega
      go_wp2_with fail
      exact bodyPost_ret (v := .tuple #[.slice (some ⟨_, 0, none⟩) 0 0, .int .i64 3]) (by simp [results, Tryz.results77, go_sem] <;> rfl) rfl (flsCode_no _ _ _ _ _ _ hl.out hc.out (HB.out.trans ((show Below w1.heap.size w1 (w1.alloc (.cells #[] 81)) from belA).mono HB.out.size)))
end Go.Proofs.YtpcjinbbgnmchaaGreat
