/- impl.FlagDensities. -/
import Derived.Test.YtfdobpeekipafaaDc
import Derived.Test.YtfdobpeekipafaaFa
namespace Go.Proofs.Ytfdobpeekipafaa
open Go.ChangeShapes Go.WideShapes Go.RowKit
set_option linter.unusedVariables false
set_option linter.unusedSimpArgs false
attribute [local irreducible] Calls
theorem flagsF_mem {tn : Nat} {te : Int} {n : Nat} {gs : List (Int × Int)} {h : Flg} (ht : tn ≤ 3) (htn : tn ≤ n) (hn : n ≤ 5) (hm : h ∈ flagsF tn te n gs) : h.1 = tn ∧ h.2.1 = n ∧ flV h = true ∧ okFlag h := by
  obtain ⟨e, he, rfl⟩ := List.mem_map.1 hm
  have h1 := flagsL_mem hn he
  have h2 : limN n ≤ 1024 := by
    have : n = 0 ∨ n = 1 ∨ n = 2 ∨ n = 3 ∨ n = 4 ∨ n = 5 := by omega
    rcases this with rfl | rfl | rfl | rfl | rfl | rfl <;> decide
  refine ⟨rfl, rfl, (flV_iff _).2 ⟨⟨by show (0 : Int) ≤ tn; omega, by show (tn : Int) ≤ 3; omega⟩, ⟨by show (0 : Int) ≤ n; omega, by show (n : Int) ≤ 5; omega⟩, by show (tn : Int) ≤ n; omega, h1.2.1⟩, okN (by omega), okN (by omega), ?_⟩
  simp only [okI, Lit.wf, IntKind.min, IntKind.max, IntKind.signed, IntKind.bits]
  simp
  omega
def dnsL (k n : Nat) (e : Int) (L : List Flg) : List (Int × Int) := L.map (dns k n e)
/-- The code of all flags of a size in a flag; their densities. -/
def fdC (s k n e : Int) : Int := if flOk k n e then (if inB s k n then (if (flagsL k.toNat (onE e (seqI k.toNat)) s.toNat []).length ≤ 64 then 0 else 3) else 2) else 1
def fdL (s k n e : Int) : List (Int × Int) := if fdC s k n e = 0 then dnsL k.toNat n.toNat e (flagsF k.toNat (onE e (seqI k.toNat)) s.toNat []) else []
/-- Fractions and a code are handed out. -/
def FrsCode (B : Nat) (w : World) (L : List (Int × Int)) (c : Int) (e : Ending) (w' : World) : Prop := ∃ A cap F, e = .returned (.tuple #[.slice A L.length cap, .int .i64 c]) ∧ Own shFr B w' L (.slice A L.length cap) F ∧ Below w.heap.size w w'
theorem frsCode_no (w w' : World) (L : List (Int × Int)) (p : Option Addr) (c c' : Int) (hL : L = []) (hc : c = c') (hb : Below w.heap.size w w') : FrsCode w.heap.size w L c (.returned (.tuple #[.slice p 0 0, .int .i64 c'])) w' := by
  subst hL hc
  exact ⟨p, 0, [], rfl, Own.nil _ _ _ 0 (Nat.zero_le _) _, hb⟩
theorem dns_ok {k n : Nat} {e : Int} {f : Flg} (hk : k ≤ 3) (hn : n ≤ 5) (hkm : k ≤ f.2.1.toNat) (hmn : f.2.1.toNat ≤ n) : okFr (dns k n e f) ∧ -1000 ≤ (dns k n e f).1 ∧ (dns k n e f).1 ≤ 1000 ∧ 1 ≤ (dns k n e f).2 ∧ (dns k n e f).2 ≤ 1000 := by
  obtain ⟨d1, d2⟩ := dnC_bd hkm hmn hn
  obtain ⟨c1, c2⟩ := ctF_bd (k := k) (n := n) (e := e) (f := f) hk hn (by omega)
  have h : ∀ p < 101, ∀ q < 11, (q = 0) || (decide (-1000 ≤ lowP ((p : Nat) : Int) ((q : Nat) : Int)) && decide (lowP ((p : Nat) : Int) ((q : Nat) : Int) ≤ 1000) && decide (1 ≤ lowQ ((p : Nat) : Int) ((q : Nat) : Int)) && decide (lowQ ((p : Nat) : Int) ((q : Nat) : Int) ≤ 1000)) = true := by decide +kernel
  have h1 := h (ctF k n e f).toNat (by omega) (dnC k n f.2.1.toNat).toNat (by omega)
  rw [show (((ctF k n e f).toNat : Nat) : Int) = ctF k n e f by omega, show (((dnC k n f.2.1.toNat).toNat : Nat) : Int) = dnC k n f.2.1.toNat by omega] at h1
  have h2 : (dnC k n f.2.1.toNat).toNat ≠ 0 := by omega
  simp only [h2, decide_false, Bool.false_or, Bool.and_eq_true, decide_eq_true_eq] at h1
  have e1 : (dns k n e f).1 = lowP (ctF k n e f) (dnC k n f.2.1.toNat) := rfl
  have e2 : (dns k n e f).2 = lowQ (ctF k n e f) (dnC k n f.2.1.toNat) := rfl
  rw [e1, e2]
  obtain ⟨⟨⟨h3, h4⟩, h5⟩, h6⟩ := h1
  have ok : ∀ x : Int, -1000 ≤ x ∧ x ≤ 1000 → okI .i64 x := fun x hx => by
    simp only [okI, Lit.wf, IntKind.min, IntKind.max, IntKind.signed, IntKind.bits]
    simp
    omega
  refine ⟨⟨ok _ ?_, ok _ ?_⟩, h3, h4, h5, h6⟩
  · rw [e1]; exact ⟨h3, h4⟩
  · rw [e2]; omega
set_option maxHeartbeats 4000000 in
theorem FlagDensities_any (w : World) (s k n e : Int) (he : 0 ≤ e ∧ e ≤ 4294967295) :
    Calls Try.prog 17 #[.int .i64 s, .agg #[.int .i64 k, .int .i64 n, .int .u32 e]] w (FrsCode w.heap.size w (fdL s k n e) (fdC s k n e)) := by
  cases h1 : flOk k n e
  · have hc : Hid (fdC s k n e = 1) := Lib.hid (by simp [fdC, h1])
    have hl : Hid (fdL s k n e = []) := Lib.hid (by unfold fdL; rw [hc.out]; rfl)
    have H1 : Hid ((!flOk k n e) = true) := Lib.hid (by rw [h1]; rfl)
    clear h1
    go_enter Try.func17, Try.ntmps17
    go_wp2_with (first | (go_at_call 51; refine Calls.mono (badFlag_any k n e _ he) ?_; rw [H1.out]; rintro e w1 ⟨rfl, hb⟩; obtain ⟨X, m, rfl⟩ := plsOf hb; clear hb))
    exact bodyPost_ret (v := .tuple #[.slice none 0 0, .int .i64 1]) (by simp [results, Try.results17, go_sem] <;> rfl) rfl (frsCode_no _ _ _ _ _ _ hl.out hc.out (by (try with_reducible refine bsz ?_); repeat (first | with_reducible exact Below.refl _ _ | ((with_reducible refine bpre ?_); (try simp only [Array.append_assoc]); repeat (first | with_reducible exact Pre.refl _ | with_reducible exact Pre.base _ _ | with_reducible refine Pre.cons _ ?_)) | with_reducible assumption | ((with_reducible refine bsetr ?_); rfl) | with_reducible refine Below.setCell ?_ (by simp <;> omega) _ | with_reducible refine bpl ?_ _ _ | with_reducible refine bal ?_ _ | with_reducible refine bdrew1 ?_ | with_reducible refine bdrew ?_ _)))
  have H1 : Hid ((!flOk k n e) = false) := Lib.hid (by rw [h1]; rfl)
  cases h2 : inB s k n
  · have hc : Hid (fdC s k n e = 2) := Lib.hid (by simp [fdC, h1, h2])
    have hl : Hid (fdL s k n e = []) := Lib.hid (by unfold fdL; rw [hc.out]; rfl)
    have H2 := Lib.hid h2
    clear h1 h2
    go_enter Try.func17, Try.ntmps17
    go_wp2_with (first | (go_at_call 51; refine Calls.mono (badFlag_any k n e _ he) ?_; rw [H1.out]; rintro e w1 ⟨rfl, hb⟩; obtain ⟨X, m, rfl⟩ := plsOf hb; clear hb) | (go_at_call 52; refine Calls.mono ((H2.out ▸ in_any s k n _)) ?_; rintro e w1 ⟨rfl, rfl⟩))
    exact bodyPost_ret (v := .tuple #[.slice none 0 0, .int .i64 2]) (by simp [results, Try.results17, go_sem] <;> rfl) rfl (frsCode_no _ _ _ _ _ _ hl.out hc.out (by (try with_reducible refine bsz ?_); repeat (first | with_reducible exact Below.refl _ _ | ((with_reducible refine bpre ?_); (try simp only [Array.append_assoc]); repeat (first | with_reducible exact Pre.refl _ | with_reducible exact Pre.base _ _ | with_reducible refine Pre.cons _ ?_)) | with_reducible assumption | ((with_reducible refine bsetr ?_); rfl) | with_reducible refine Below.setCell ?_ (by simp <;> omega) _ | with_reducible refine bpl ?_ _ _ | with_reducible refine bal ?_ _ | with_reducible refine bdrew1 ?_ | with_reducible refine bdrew ?_ _)))
  have H2 := Lib.hid h2
  obtain ⟨g1, g2, g3⟩ := (flOk_iff _ _ _).1 h1
  obtain ⟨kN, rfl⟩ := Int.eq_ofNat_of_zero_le g2.1
  obtain ⟨nN, rfl⟩ := Int.eq_ofNat_of_zero_le (show 0 ≤ n by omega)
  obtain ⟨hs1, hs2⟩ := inB_iff.1 h2
  obtain ⟨sN, rfl⟩ := Int.eq_ofNat_of_zero_le (show 0 ≤ s by omega)
  have hn5 : nN ≤ 5 := by simp [grOk, inB] at g1; omega
  have hk3 : kN ≤ 3 := by omega
  have hks : kN ≤ sN := by omega
  have hsn : sN ≤ nN := by omega
  have hk5 : kN ≤ 5 := by omega
  have hs5 : sN ≤ 5 := by omega
  obtain ⟨TE, hTE⟩ : ∃ TE, Hid (onE e (seqI kN) = TE) := ⟨_, Lib.hid rfl⟩
  have hcl : Hid (fdC sN kN nN e = if (flagsL kN TE sN []).length ≤ 64 then 0 else 3) := Lib.hid (by
    unfold fdC
    rw [if_pos h1, if_pos h2, ← hTE.out]
    rfl)
  have hoe : Hid (okI .u32 e) := Lib.hid (by simp [okI, Lit.wf, IntKind.min, IntKind.max, IntKind.signed, IntKind.bits]; omega)
  have HTY : Hid (∀ w, Calls Try.prog 54 #[.agg #[.int .i64 kN, .int .i64 nN, .int .u32 e]] w fun e0 w' => e0 = .returned (.agg #[.int .i64 kN, .int .u32 TE]) ∧ Below w.heap.size w w') := Lib.hid fun w => by
    have := typeOf_any w kN nN e hk5
    rw [hTE.out] at this
    exact this
  obtain ⟨GL, hGL, N, hN, hLn, hNl⟩ : ∃ GL : List Flg, Hid (flagsF kN TE sN [] = GL) ∧ ∃ N : Nat, Hid (GL.length = N) ∧ Hid ((flagsL kN TE sN []).length = N) ∧ N ≤ 1024 :=
    ⟨_, Lib.hid rfl, _, Lib.hid rfl, Lib.hid (List.length_map _).symm, by rw [show (flagsF kN TE sN []).length = (flagsL kN TE sN []).length from List.length_map _]; exact flagsL_len kN TE sN hs5 []⟩
  have hdec : Hid (decide ((flagsL kN TE sN []).length ≤ 64) = decide (N ≤ 64)) := Lib.hid (by rw [hLn.out])
  clear h1 h2 g1 g2 g3 hs1 hs2
  go_enter Try.func17, Try.ntmps17
  go_wp2_with (first | (go_at_call 51; refine Calls.mono (badFlag_any kN nN e _ he) ?_; rw [H1.out]; rintro e w1 ⟨rfl, hb⟩; obtain ⟨X, m, rfl⟩ := plsOf hb; clear hb) | (go_at_call 52; refine Calls.mono ((H2.out ▸ in_any sN kN nN _)) ?_; rintro e w1 ⟨rfl, rfl⟩) | (go_at_call 54; refine Calls.mono (HTY.out _) ?_; rintro e w1 ⟨rfl, hb⟩; obtain ⟨X1, m1, rfl⟩ := plsOf hb; clear hb))
  refine Calls.mono (allFlags_any _ kN sN TE [] _ (Own.nil shGr 0 _ 0 (Nat.zero_le _) none).lst hks hs5 (by simp) (by simp)) ?_
  rintro e0 w1 ⟨A1, cap1, F1, rfl, hO1, hb⟩
  have hO1' : Own shFlag w.heap.size w1 GL (.slice A1 N cap1) F1 := by
    have := hO1.below (B' := w.heap.size) (by simp; omega) (Below.refl _ _)
    rw [hGL.out, show List.length (α := shFlag.T) GL = N from hN.out] at this
    exact this
  rw [hGL.out, show List.length (α := shFlag.T) GL = N from hN.out, hdec.out]
  have hF1 : Hid (∀ b ∈ F1, w.heap.size + 1 ≤ b ∧ b < w1.heap.size) := Lib.hid fun b hb => ⟨by have := hO1.ge b hb; simp at this; omega, hO1'.lt b hb⟩
  have hz1 : w.heap.size + 1 ≤ w1.heap.size := by have := hb.size; simp at this; omega
  have hbl : Below w.heap.size w w1 := Below.trans (by (try with_reducible refine bsz ?_); repeat (first | with_reducible exact Below.refl _ _ | ((with_reducible refine bpre ?_); (try simp only [Array.append_assoc]); repeat (first | with_reducible exact Pre.refl _ | with_reducible exact Pre.base _ _ | with_reducible refine Pre.cons _ ?_)) | with_reducible assumption | ((with_reducible refine bsetr ?_); rfl) | with_reducible refine Below.setCell ?_ (by simp <;> omega) _ | with_reducible refine bpl ?_ _ _ | with_reducible refine bal ?_ _ | with_reducible refine bdrew1 ?_ | with_reducible refine bdrew ?_ _)) (hb.mono (by simp <;> omega))
  have k0 : w1.heap[w.heap.size]? = some (.cells #[.int .i64 kN, .int .i64 nN, .int .u32 e] 41 (0, 0)) := bblk hb (by simp <;> omega) (by repeat (first | with_reducible assumption | with_reducible refine pls_block _ _ ?_ | with_reducible apply blkset2 | with_reducible apply blkset1 | ((with_reducible refine blksetN ?_ ?_ _); (focus (simp <;> omega))) | with_reducible exact blknew _ _ | ((with_reducible refine blknew' _ _ _ ?_); (simp <;> omega)) | with_reducible refine blkal ?_ _))
  have HO1 := Lib.hid hO1'
  have HB1 := Lib.hid hbl
  have K0 := Lib.hid k0
  clear hb hO1 hO1' hbl k0
  by_cases h64 : N ≤ 64
  rotate_left
  · have hc : Hid (fdC sN kN nN e = 3) := Lib.hid (by rw [hcl.out, hLn.out, if_neg h64])
    have hl : Hid (fdL sN kN nN e = []) := Lib.hid (by unfold fdL; rw [hc.out]; rfl)
    have hd : decide (N ≤ 64) = false := by simp; omega
    rw [hd]
    clear hd
    have hb1 := HB1.out
    go_wp2_with fail
    exact bodyPost_ret (v := .tuple #[.slice none 0 0, .int .i64 3]) (by simp [results, Try.results17, go_sem] <;> rfl) rfl (frsCode_no _ _ _ _ _ _ hl.out hc.out hb1)
  have hd : decide (N ≤ 64) = true := by simp; omega
  rw [hd]
  clear hd
  obtain ⟨i1, zv1, hi1, hz1', hsz1, hby1, hl1⟩ := infoB_spec (P := Try.prog) (e := 47) (sz := 2) (bytes := 16) (by kernel_rfl)
  have I1 := Lib.hid hi1
  have Z1 := Lib.hid hz1'
  have hc : Hid (fdC sN kN nN e = 0) := Lib.hid (by rw [hcl.out, hLn.out, if_pos h64])
  have hl : Hid (fdL sN kN nN e = dnsL kN nN e GL) := Lib.hid (by unfold fdL; rw [hc.out, if_pos rfl, show (kN : Int).toNat = kN from rfl, show (sN : Int).toNat = sN from rfl, show (nN : Int).toNat = nN from rfl, hTE.out, hGL.out])
  have hmem : Hid (∀ h ∈ GL, h.1 = kN ∧ h.2.1 = sN ∧ flV h = true ∧ okFlag h) := Lib.hid fun h hh => flagsF_mem hk3 hks hs5 (by rw [hGL.out]; exact hh)
  clear hi1 hz1'
  go_wp2_with fail
  go_loopw [8, 35] (fun o i wr => ∃ (a : Nat), a ≤ N ∧ i = .int .i64 a ∧ wr.heap[w.heap.size]? = some (.cells #[.int .i64 kN, .int .i64 nN, .int .u32 e] 41 (0, 0)) ∧ Hid (AppS shFr (w.heap.size + 1) 47 wr o (dnsL kN nN e (GL.take a))) ∧ Hid (Own shFlag 0 wr GL (.slice A1 N cap1) F1) ∧ Hid (∀ q, o.ownBlock = some q → q ∉ F1) ∧ Below w.heap.size w wr ∧ w1.heap.size ≤ wr.heap.size) (fun _ i _ => N - (intOf i).toNat)
  case atStart =>
    have hb1 := HB1.out
    have hk0 := K0.out
    exact ⟨0, Nat.zero_le _, rfl, (by repeat (first | with_reducible assumption | with_reducible refine pls_block _ _ ?_ | with_reducible apply blkset2 | with_reducible apply blkset1 | ((with_reducible refine blksetN ?_ ?_ _); (focus (simp <;> omega))) | with_reducible exact blknew _ _ | ((with_reducible refine blknew' _ _ _ ?_); (simp <;> omega)) | with_reducible refine blkal ?_ _)), Lib.hid (AppS.new shFr (blknew _ _) (by omega)), Lib.hid (HO1.out.below (Nat.zero_le _) (by (try with_reducible refine bsz ?_); repeat (first | with_reducible exact Below.refl _ _ | ((with_reducible refine bpre ?_); (try simp only [Array.append_assoc]); repeat (first | with_reducible exact Pre.refl _ | with_reducible exact Pre.base _ _ | with_reducible refine Pre.cons _ ?_)) | with_reducible assumption | ((with_reducible refine bsetr ?_); rfl) | with_reducible refine Below.setCell ?_ (by simp <;> omega) _ | with_reducible refine bpl ?_ _ _ | with_reducible refine bal ?_ _ | with_reducible refine bdrew1 ?_ | with_reducible refine bdrew ?_ _))), Lib.hid (fun q hq hm => by
      have : q = w1.heap.size := by simpa [Value.ownBlock] using hq.symm
      have := (hF1.out q hm).2
      omega), (by (try with_reducible refine bsz ?_); repeat (first | with_reducible exact Below.refl _ _ | ((with_reducible refine bpre ?_); (try simp only [Array.append_assoc]); repeat (first | with_reducible exact Pre.refl _ | with_reducible exact Pre.base _ _ | with_reducible refine Pre.cons _ ?_)) | with_reducible assumption | ((with_reducible refine bsetr ?_); rfl) | with_reducible refine Below.setCell ?_ (by simp <;> omega) _ | with_reducible refine bpl ?_ _ _ | with_reducible refine bal ?_ _ | with_reducible refine bdrew1 ?_ | with_reducible refine bdrew ?_ _)), by simp⟩
  case round =>
    obtain ⟨a, ha, rfl, b0, hA, hG, hQ, hB, hzz⟩ := hrel
    obtain ⟨q0, q1, q2⟩ := blkc3 b0
    have y0 := blklt b0
    have B0 := Lib.hid b0
    clear b0
    by_cases hlt : a < N
    · have hk8 : (a : Int) < (N : Int) := by omega
      obtain ⟨_, _, hv, _, _, hoks, hel⟩ := lstFlag hG.out.lst
      injection hv with e1 e2 e3
      obtain ⟨bl, off, e4, hel⟩ := hel (by omega)
      rw [← e1] at e4
      subst e4
      obtain ⟨d, hd, hok, c0, c1, c2⟩ := hel a (by omega)
      have zb := World.block_lt_of_cell? _ _ c0
      simp only at zb
      obtain ⟨m1, m2, m3, m4⟩ := hmem.out d (List.mem_of_getElem? hd)
      have HD := Lib.hid hd
      have hdk : d.2.1.toNat = sN := by rw [m2]; rfl
      have hDok := Lib.hid (dns_ok (k := kN) (n := nN) (e := e) (f := d) hk3 hn5 (by omega) (by omega)).1
      have HDN : Hid (∀ w, Calls Try.prog 55 #[.agg #[.int .i64 d.1, .int .i64 d.2.1, .int .u32 d.2.2], .agg #[.int .i64 kN, .int .i64 nN, .int .u32 e]] w fun r w' => r = .returned (.agg #[.int .i64 (dns kN nN e d).1, .int .i64 (dns kN nN e d).2]) ∧ Below w.heap.size w w') := Lib.hid fun w => density_any w kN nN e d hk3 (by omega) hn5 hoe.out m3 m4 m1 (by omega)
      have hnx : Hid (dnsL kN nN e (GL.take (a + 1)) = dnsL kN nN e (GL.take a) ++ [dns kN nN e d]) := Lib.hid (by unfold dnsL; rw [List.take_add_one, HD.out, List.map_append]; rfl)
      have hml : Hid (List.length (α := shFr.T) (dnsL kN nN e (GL.take a)) = a) := Lib.hid ((List.length_map _).trans (take_len (by rw [hN.out]; exact ha)))
      clear hel hoks hd hok e1 e2 e3 m1 m2 m3 m4 hdk
      obtain ⟨W0, rfl⟩ : ∃ x, x = wr := ⟨_, rfl⟩
      go_wp2_with fail
      refine Calls.mono (HDN.out _) ?_
      rintro e0 w3 ⟨rfl, hb⟩
      have hW3 : Below W0.heap.size W0 w3 := Below.trans (by (try with_reducible refine bsz ?_); repeat (first | with_reducible exact Below.refl _ _ | ((with_reducible refine bpre ?_); (try simp only [Array.append_assoc]); repeat (first | with_reducible exact Pre.refl _ | with_reducible exact Pre.base _ _ | with_reducible refine Pre.cons _ ?_)) | with_reducible assumption | ((with_reducible refine bsetr ?_); rfl) | with_reducible refine Below.setCell ?_ (by simp <;> omega) _ | with_reducible refine bpl ?_ _ _ | with_reducible refine bal ?_ _ | with_reducible refine bdrew1 ?_ | with_reducible refine bdrew ?_ _)) (hb.mono (by simp))
      obtain ⟨D, hDD⟩ : ∃ D : Int × Int, Hid (dns kN nN e d = D) := ⟨_, Lib.hid rfl⟩
      rw [hDD.out] at hDok hnx ⊢
      have hW4 : Below W0.heap.size W0 (w3.alloc (.cells #[.int .i64 D.1, .int .i64 D.2] 47)) := bal hW3 _
      obtain ⟨L, hown0, hnext⟩ := AppS.flat flatFr (hA.out.below hW4)
      rw [hml.out] at hown0 hnext
      have HGE := Lib.hid hA.out.ge
      have HW3 := Lib.hid hW3
      have HW4 := Lib.hid hW4
      have HO := Lib.hid hown0
      have HX := Lib.hid hnext
      have hz3 := hW3.size
      clear hb hW3 hW4 hown0 hnext
      go_wp2_with (at_builtin; refine wpList_append_lies _ rfl (.tmp 39) (.tmp 43) 37 rfl (w.heap.size + 1) 47 i1 zv1 2 16 Try.underlying37 I1.out Z1.out hsz1 hby1 hl1 (by decide) u8 a L rfl HO.out ⟨w3.heap.size, 0, none⟩ 1 1 [.int .i64 D.1, .int .i64 D.2] rfl rfl (World.news_of_block (blknew _ _)) (by simp [Value.oneCell']) (by decide) (by unfold maxLen; omega) (by omega) (by simp; omega) _ rfl ?_; intro g1 cap2 w2 hown hgrow hat hlt3)
      go_roundw
      case rel =>
        have hN := HX.out D hDok.out g1 cap2 w2 hown hgrow hat
        have hb2 := grown_below (B := w.heap.size + 1) hgrow (fun q hq => (HGE.out q hq).1) (by simp; omega)
        have hW2 := HW4.out
        refine ⟨a + 1, by omega, by go_num, bblk hb2 (by omega) (bblk hW2 y0 B0.out), Lib.hid (by rw [hnx.out]; exact hN), Lib.hid ((hG.out.below (Nat.le_refl _) hW2).grown hgrow hQ.out), Lib.hid fun q hq hm => ?_, (bthen hB hW2).trans (hb2.mono (by omega)), by have := hb2.size; simp at this; omega⟩
        have hqg : q = g1 := by simpa [Value.ownBlock] using hq.symm
        subst hqg
        rcases hat with hat | hat
        · exact hQ.out q hat hm
        · have := (hF1.out q hm).2
          simp at hat
          omega
      case measure => simp [intOf]; omega
    · have ee : a = N := by omega
      subst ee
      obtain ⟨A2, cap2, F2, rfl, hO2⟩ := hA.out.own
      have hfull : Hid (dnsL kN nN e (GL.take a) = fdL sN kN nN e) := Lib.hid (by rw [hl.out, show GL.take a = GL from by rw [← hN.out]; exact List.take_length])
      have hfl : Hid (List.length (α := shFr.T) (dnsL kN nN e (GL.take a)) = a) := Lib.hid ((List.length_map _).trans (take_len (by rw [hN.out]; exact Nat.le_refl _)))
      rw [hfl.out] at hO2 ⊢
      have HO2 := Lib.hid (hO2.below (B' := w.heap.size) (by omega) (Below.refl _ _))
      clear hO2
      go_wp2_with fail
      refine bodyPost_ret (v := .tuple #[.slice A2 a cap2, .int .i64 0]) (by simp [results, Try.results17, go_sem]) rfl ?_
      rw [hc.out, ← hfull.out]
      have hfl2 : (dnsL kN nN e (GL.take a)).length = a := hfl.out
      exact ⟨A2, cap2, F2, by rw [hfl2], by rw [hfl2]; exact HO2.out, hB⟩
end Go.Proofs.Ytfdobpeekipafaa
